/- A part of the proof: contracts of functions that the statement reaches. -/
import Derived.Test.YtchcbiiammkhgaaGreatMK
import Derived.Shelf.Sort.Plain
import Derived.Shelf.Slices.Turned
import Derived.Ground.Names2Prog
import Derived.Shelf.Slices.CompactI
import Derived.Shelf.Slices.In.SortNone
import Derived.Ground.SlsfProg
import Derived.Shelf.SlSortCmp.WholeK
import Derived.Shelf.SlSortCmp.NoneTotal
import Derived.Test.YtchcbiiammkhgaaGreatProg
import Derived.Shelf.SlGeneric
set_option linter.unusedSimpArgs false
set_option linter.unusedVariables false
set_option linter.unnecessarySimpa false
set_option maxRecDepth 100000
set_option maxHeartbeats 2000000
noncomputable section
namespace Go.Abs
open Go.Proofs
open Api
theorem B61(k k':List Int)(v:AV): ∀es:List (List Int×AV),A3b (A64 es k v) k'=if k'==k then some v else A3b es k'
 | []=>rfl
 |(z,u)::r=>by
  have ih:=B61 k k' v r;simp only[A64];cases hz:k==z with
  |true=>
   have e:k=z:=by simpa using hz
   subst e;simp only[if_true,A3b];cases h:k'==k <;> simp
  |false=>
   simp only[Bool.false_eq_true,if_false,A3b,ih];cases h:k'==z with
   |true=>
    have e:k'=z:=by simpa using h
    subst e;have:(k'==k)=false:=by
     cases h2:k'==k with
     |false=>rfl
     |true=>
      have e2:k'=k:=by simpa using h2
      subst e2;rw[h]at hz;cases hz
    simp[this]
   |false=>simp
def A7h(k:cR):List Int:= [k.cU,k.dM,k.cV,k.dK]
theorem F8s {a b:cR}(h:A7h a=A7h b):a=b:=by obtain⟨a1,a2,a3,a4⟩:=a;obtain⟨b1,b2,b3,b4⟩:=b;simp only[A7h,List.cons.injEq,and_true]at h;obtain⟨rfl,rfl,rfl,rfl⟩:=h;rfl
theorem E8b(a b:cR):(A7h a==A7h b)=decide (a=b):=by
 by_cases h:a=b
 ·subst h;simp
 ·rw[decide_eq_false h];cases h2:A7h a==A7h b with
  |false=>rfl
  |true=>exact absurd (F8s (by simpa using h2)) h
def A60(l:List cY)(k:cR):Nat->Option Nat
 |0=>none
 |n+1=>match A60 l k n with
  |some i=>some i
  |none=>if(l.getD n dF_).dQ=k then some n else none
theorem D10 {l:List cY}{k:cR}: ∀ {n i:Nat},A60 l k n=some i->i<n/\(l.getD i dF_).dQ=k
 |0,i,h=>by cases h
 |n+1,i,h=>by
  simp only[A60]at h;split at h
  ·rename_i j hj;injection h with h;subst h;have:=D10 hj;exact⟨by omega,this.2⟩
  ·split at h
   ·rename_i he;injection h with h;subst h;exact⟨by omega,he⟩
   ·cases h
def ibk(l:List cY):Nat->List (List Int×AV)
 |0=> []
 |n+1=>if(A3b (ibk l n) (A7h (l.getD n dF_).dQ)).isSome=true then ibk l n else A64 (ibk l n) (A7h (l.getD n dF_).dQ) (sI (n:Nat))
theorem F1y(l:List cY)(k:cR): ∀n,A3b (ibk l n) (A7h k)=(A60 l k n).map λi=> .sc (.int .i64 (i:Nat))
 |0=>rfl
 |n+1=>by
  have ih:=F1y l k n;simp only[ibk,A60];by_cases he:(l.getD n dF_).dQ=k
  ·subst he;rw[ih];cases hf:A60 l (l.getD n dF_).dQ n with
   |some i=>simp only[Option.map_some,Option.isSome_some,if_true,ih,hf]
   |none=>simp only[Option.map_none,Option.isSome_none,Bool.false_eq_true,if_false,B61,beq_self_eq_true,if_true,Option.map_some]
  ·have hne:(A7h k==A7h (l.getD n dF_).dQ)=false:=by rw[E8b,decide_eq_false (λe=>he e.symm)]
   have hx:A3b (if(A3b (ibk l n) (A7h (l.getD n dF_).dQ)).isSome=true then ibk l n else A64 (ibk l n) (A7h (l.getD n dF_).dQ) (sI (n:Nat))) (A7h k)=A3b (ibk l n) (A7h k):=by
    split
    ·rfl
    ·rw[B61,hne];rfl
   rw[hx,ih,if_neg he];cases A60 l k n <;> rfl
end Go.Abs
end
noncomputable section
namespace Go.Abs
open Go.Proofs
open Api
end Go.Abs
namespace Go.Api
open Go.Abs
structure Event where
 cS:Int
 dQ:cR
 deriving DecidableEq,Inhabited
def Event.enc(x:Event):List AV:=[sI x.cS,sI x.dQ.cU,sI x.dQ.dM,sI x.dQ.cV,sI x.dQ.dK]
def Event.zero:List AV:= [sI 0,sI 0,sI 0,sI 0,sI 0]
attribute [go_sem] Event.enc Event.zero
@[go_sem] theorem G7c(x:Event):Event.mk x.cS x.dQ=x:=rfl
end Go.Api
namespace Go.Abs
open Go.Proofs Api
attribute [go_sem] B6z
theorem B43(l:List cY)(hl:l.length<=1048576):cA_ C52 [A4 7 cY.enc dF_ l] [] (.mp 1) [(1, .mapS 4 (ibk l l.length))]:=by
 refine I7 hm A6 Tryz.func152 rfl rfl (st_ ?_);refine B1 hm (ι:= {i:Nat // i<=l.length}) (λi=> [(3, .cA, .mp 1),(9, .cA,A4 7 cY.enc dF_ l),(10, .cA,sI l.length),(11, .cA,sI (i.1:Nat))]) (λi=> [(1, .mapS 4 (ibk l i.1))]) (λi=>l.length-i.1) ⟨0,Nat.zero_le _⟩ ?_ ?_
 ·refine B0 [(1,144)] [] (st_ ?_);exact eE_
 ·rintro⟨i,hi⟩;dsimp only;have hn:ibk l (i+1)=if(A3b (ibk l i) [(l.getD i dF_).dQ.cU,(l.getD i dF_).dQ.dM,(l.getD i dF_).dQ.cV,(l.getD i dF_).dQ.dK]).isSome=true then ibk l i else A64 (ibk l i) [(l.getD i dF_).dQ.cU,(l.getD i dF_).dQ.dM,(l.getD i dF_).dQ.cV,(l.getD i dF_).dQ.dK] (sI (i:Nat)):=rfl
  have hfin:l.length<=i->ibk l i=ibk l l.length:=λh=>by rw[show i=l.length by omega]
  generalize ibk l i=es at hn hfin⊢;refine st_ ?_;by_cases hlt:i<l.length
  ·rw[if_pos (by omega)];refine⟨bE_,?_⟩;cases hf:A3b es [(l.getD i dF_).dQ.cU,(l.getD i dF_).dQ.dM,(l.getD i dF_).dQ.cV,(l.getD i dF_).dQ.dK]with
   |none=>rw[hf]at hn;simp only[Option.isSome_none,Bool.false_eq_true,if_false]at hn;refine st_ ?_;refine A8 ⟨i+1,by omega⟩ (by show l.length-(i+1)<l.length-i;omega) ?_;simp only[hn];refine B0 [] [] (st_ ?_);exact eE_
   |some v=>rw[hf]at hn;simp only[Option.isSome_some,if_true]at hn;refine st_ ?_;refine A8 ⟨i+1,by omega⟩ (by show l.length-(i+1)<l.length-i;omega) ?_;simp only[hn];refine B0 [] [] (st_ ?_);exact eE_
  ·rw[if_neg (by omega)];rw[<-hfin (by omega)];refine B6 [.cA] [] [] (st_ ?_);exact eE_
theorem C5a {α β:Type} [Inhabited α]{f:α->Option β}{l:List α}{i:Nat}(h:i<l.length):(l.take (i+1)).filterMap f=(l.take i).filterMap f++(f (l.getD i dF_)).toList:=by rw[L5 dF_ h,List.filterMap_append];congr 1
theorem D12 {α β:Type}{f:α->Option β}{l:List α}(i:Nat):((l.take i).filterMap f).length<=l.length:=Nat.le_trans (List.length_filterMap_le ..) (by rw[List.length_take];omega)
theorem F5w(l:List cY)(k:cR):A3b (ibk l l.length) [k.cU,k.dM,k.cV,k.dK]=(A60 l k l.length).map λi=> .sc (.int .i64 (i:Nat)):=F1y l k l.length
def evF(b:List cY)(kind:Int)(t:cY):Option Api.Event:=if(A60 b t.dQ b.length).isSome=true then none else some ⟨kind,t.dQ⟩
def C65(a b:List cY)(kind:Int):List Api.Event:=a.filterMap (evF b kind)
theorem B3p(a b:List cY)(kind:Int):(C65 a b kind).length<=a.length:=List.length_filterMap_le ..
theorem B5z(a b:List cY)(kind:Int)(ha:a.length<=1048576)(hb:b.length<=1048576):cA_ C9a [A4 7 cY.enc dF_ a,A4 7 cY.enc dF_ b,sI kind] [] (.sl 1 0 (C65 a b kind).length (C65 a b kind).length) [(1, .arr 5 (A9 Api.Event.enc dF_ (C65 a b kind)))]:=by
 refine I7 hm A6 Tryz.func157 rfl rfl (st_ ?_);refine J2 ev_ K0 (B43 b hb) (st_ ?_);refine B1 hm (ι:= {i:Nat // i<=a.length}) (λi=> [(2, .cA,sI kind),(7, .cA, .mp 2),(8,mdA i.1, .sl 1 0 ((a.take i.1).filterMap (evF b kind)).length ((a.take i.1).filterMap (evF b kind)).length),(15, .cA,A4 7 cY.enc dF_ a),(16, .cA,sI a.length),(17, .cA,sI (i.1:Nat))]) (λi=> [(1, .arr 5 (A9 Api.Event.enc dF_ ((a.take i.1).filterMap (evF b kind)))),(2, .mapS 4 (ibk b b.length))]) (λi=>a.length-i.1) ⟨0,Nat.zero_le _⟩ ?_ ?_
 ·simp only[List.take_zero,List.filterMap_nil];refine B0 [(2,240)] [1] (st_ ?_);exact eE_
 ·rintro⟨i,hi⟩;dsimp only;have hn:i<a.length->(a.take (i+1)).filterMap (evF b kind)=(a.take i).filterMap (evF b kind)++(evF b kind (a.getD i dF_)).toList:=λh=>C5a h
  have hfin:a.length<=i->(a.take i).filterMap (evF b kind)=C65 a b kind:=λh=>by rw[show i=a.length by omega,List.take_length];rfl
  have hlen:=D12 (f:=evF b kind) (l:=a) i;generalize(a.take i).filterMap (evF b kind)=v at hn hfin hlen⊢;refine st_ ?_;by_cases hlt:i<a.length
  ·rw[if_pos (by omega)];refine⟨bE_,?_⟩;replace hn:=hn hlt;rw[show evF b kind (a.getD i dF_)=if(A60 b (a.getD i dF_).dQ b.length).isSome=true then none else some ⟨kind,(a.getD i dF_).dQ⟩from rfl]at hn;rw[F5w];cases hf:A60 b (a.getD i dF_).dQ b.length with
   |none=>rw[hf]at hn;simp only[Option.isSome_none,Bool.false_eq_true,if_false,Option.toList]at hn;refine st_ ?_;refine⟨bE_,?_⟩;refine A8 ⟨i+1,by omega⟩ (by show a.length-(i+1)<a.length-i;omega) ?_;simp only[hn];refine B0 [] [] (st_ ?_);exact eE_
   |some v=>rw[hf]at hn;simp only[Option.isSome_some,if_true,Option.toList,List.append_nil]at hn;refine st_ ?_;refine A8 ⟨i+1,by omega⟩ (by show a.length-(i+1)<a.length-i;omega) ?_;simp only[hn];refine B0 [] [] (st_ ?_);exact eE_
  ·rw[if_neg (by omega)];rw[<-hfin (by omega)];refine B6 [.cA] [] [] ?_;simp only[go_sem,go_sem_proc]
def B9h(old now:List cY):List Api.Event:=C65 now old 1++C65 old now 2
theorem D8y(old now:List cY)(ho:old.length<=1048576)(hn:now.length<=1048576):cA_ D6r [A4 7 cY.enc dF_ old,A4 7 cY.enc dF_ now] [] (.sl 1 0 (B9h old now).length (B9h old now).length) [(1, .arr 5 (A9 Api.Event.enc dF_ (B9h old now)))]:=by
 have l1:=B3p now old 1
 have l2:=B3p old now 2;refine I7 hm A6 Tryz.func97 rfl rfl (st_ ?_);refine J2 ev_ K0 (B5z now old 1 hn ho) (st_ ?_);refine J2 ev_ K0 (B5z old now 2 ho hn) (st_ ?_);refine⟨bE_,?_⟩;unfold B9h;refine B6 [.cA] [(1,128)] [] (st_ ?_);exact eE_
end Go.Abs
end
noncomputable section
namespace Go.Abs
open Go.Proofs
open Api
theorem B4u {O:List (Nat×A7)}(hn:(O.map (·.1)).Nodup){i:Nat}:(ofL O i).isSome↔i∈O.map (·.1):=by
 constructor
 ·intro h;obtain⟨o,ho⟩:=A89 h;exact List.mem_map_of_mem (f:=(·.1)) ho
 ·intro h;obtain⟨p,hp,rfl⟩:=List.mem_map.1 h;rw[B4t hn hp];rfl
theorem M1 {P:Program}{m:Nat->Option A7}{f:FuncId}{avs:List AV}{b:Bool}{Q:ContR}{O O':List (Nat×A7)}{r:AV}(hc:D5 P f avs O r O')(h:okO O)(h':okO O')(hk: ∀i∈O.map (·.1),i∈O'.map (·.1))(hm: ∀p∈O,m p.1=some p.2)
  (hf: ∀i∈O'.map (·.1),i∉O.map (·.1)->m i=none)(ha: ∀a∈avs,∀i∈a.ids,(ofL O i).isSome)(hb:b=true)(hK: @Ri Q b ⟨some r,O'⟩): @A21 P m f avs b Q:=by
 refine⟨⟨some r,O'⟩,λ_=> ?_,λ_=>hb,hK⟩;have:=R5.mk (P:=P) (m:=m) (avs.map λ_=>true) avs O r O' id [] false hc (A84 ha)
  (λi o hi=>by rw[B14];exact hm _ (A0p h.1 hi))
  (λi cs hi j hj=>h.2 _ (A0p h.1 hi) cs rfl j hj) (λi hi=>(B4u h'.1).2 (hk i ((B4u h.1).1 hi)))
  (λi hi=>by
    by_cases ho:i∈O.map (·.1)
    ·exact .inl ((B4u h.1).2 ho)
    ·exact .inr (hf i ((B4u h'.1).1 hi) ho)) (by simpa using h'.1) (λe=>by cases e)
 simpa[AV.ren_id,C5g]using this
theorem D5t(s:cL)(h:s.cP.length<=1048576):cA_ B98 [.agg s.enc] [] (.agg [sI s.dF.X,sI s.dF.Y, .sl 1 0 s.cP.length s.cP.length]) [(1, .arr 6 (A9 cO.enc dF_ s.cP))]:=by refine C6y 8 [(2,some (some 3))] hm A6 Tryz.func95 rfl (st_ ?_);refine J2 ev_ K0 (A8a s.cP h) (st_ ?_);refine B6 [.cA] [(1,96)] [] ?_;simp only[go_sem,go_sem_proc]
def wsO(q:Sq)(i:Nat):List (Nat×A7):= [(144, .box [.ptr 1 i 0 q.n]),(1, .arr 6 q)]
theorem E26 {q:Sq}{i:Nat}:okO (wsO q i):=by
 refine⟨by simp[wsO],λp hp cs e j hj=> ?_⟩;simp only[wsO,List.mem_cons,List.not_mem_nil,or_false]at hp;rcases hp with rfl |rfl
 ·simp only[A7.box.injEq]at e;subst e;simp[F0,AV.ids]at hj;subst hj;rfl
 ·cases e
theorem E3f(o c:cO)(q:Sq)(i:Nat)(hi:i<q.n)(hq:q.g i=c.enc):cA_ B1z [.agg o.enc, .ptr 144 0 0 1] (wsO q i) (sB (o.ID==c.ID)) (wsO q i):=by refine I7 hm A6 Tryz.func256 rfl rfl ?_;simp only[go_sem,go_sem_proc,wsO,hq];refine B6 [.cA] [] [] ?_;simp only[go_sem,go_sem_proc]
def wsK(old:cL)(p:cO):Int:=A3t dF_ (λo:cO=>o.ID==p.ID) old.cP
def wsP(old:cL)(al:Bool)(p:cO):cO:=if al=true/\0<=wsK old p then⟨p.eY,p.fA,p.ID,(old.cP.getD (wsK old p).toNat dF_).eM,(old.cP.getD (wsK old p).toNat dF_).eW⟩else⟨p.eY,p.fA,p.ID,0,0⟩
def wsS(old:cL)(al:Bool)(i:Nat)(s:List cO):List cO:=s.set i (wsP old al (s.getD i dF_))
def wsA(old now:cL):Bool:=decide (32768<=P8 old.dF now.dF)
def wsM(old now:cL):cL:=⟨now.dF,itr (wsS old (wsA old now)) now.cP.length now.cP⟩
theorem F2u(old:cL)(al:Bool)(n:Nat)(l:List cO):(itr (wsS old al) n l).length=l.length:=U1 (λs:List cO=>s.length) (λi s=>by simp[wsS]) n l
theorem G3t(old now:cL):(wsM old now).cP.length=now.cP.length:=F2u ..
theorem B5y(old now:cL)(ho:old.cP.length<=1048576)(hn:now.cP.length<=1048576):cA_ C89 [.agg old.enc, .agg now.enc] [] (.agg (wsM old now).enc) []:=by
 have hM:wsM old now=⟨now.dF,itr (wsS old (wsA old now)) now.cP.length now.cP⟩:=rfl;rw[hM];have hal:wsA old now=decide (32768<=P8 old.dF now.dF):=rfl;refine M3 63 [(4,some (some 3))] hm A6 Tryz.func156 rfl (st_ ?_);refine J2 ev_ K0 (D5t now hn) (st_ ?_);refine A0 (A0r old.dF now.dF) rfl (st_ ?_);rw[show(decide (P8 old.dF now.dF>=32768))=wsA old now from rfl];generalize wsA old now=al;have hB:=F2u old al;refine B1 hm (ι:= {i:Nat // i<=now.cP.length}) (λi=> [(2, .cA, .ptr 48 0 0 1),(4, .cA, .ptr 80 0 0 1),(5, .cA, .ptr 96 0 0 1),(6, .cA,sB al),(20, .cA,sI now.cP.length),(21, .cA,sI (i.1:Nat))]) (λi=> [(48, .box old.enc),(80, .box [sI 0,sI 0, .sc (.slice none 0 0)]),(96, .box [sI now.dF.X,sI now.dF.Y, .sl 1 0 now.cP.length now.cP.length]),(1, .arr 6 (A9 cO.enc dF_ (itr (wsS old al) i.1 now.cP)))]) (λi=>now.cP.length-i.1) ⟨0,Nat.zero_le _⟩ ?_ ?_
 ·simp only[J3];refine B0 [(1,192)] [] ?_;simp only[go_sem,go_sem_proc]
 ·rintro⟨i,hi⟩;dsimp only;have hl:=hB i now.cP
  have hn1:itr (wsS old al) (i+1) now.cP=wsS old al i (itr (wsS old al) i now.cP):=rfl
  have hfin:now.cP.length<=i->itr (wsS old al) i now.cP=itr (wsS old al) now.cP.length now.cP:=λh=>by rw[show i=now.cP.length by omega]
  generalize itr (wsS old al) i now.cP=v at hl hn1 hfin⊢;refine st_ ?_;by_cases hlt:i<now.cP.length;rotate_left
  ·rw[if_neg (by omega),<-hfin (by omega)];refine⟨hl.symm,?_⟩;rw[hl];exact D0 _
  rw[if_pos (by omega)];have hc:=A53 old.cP B1z [] [.ptr 144 0 0 1] (wsO ((A9 cO.enc dF_ v).set i (⟨(v.getD i dF_).eY,(v.getD i dF_).fA,(v.getD i dF_).ID,0,0⟩:cO).enc) i) (λo=>o.ID==(v.getD i dF_).ID) (by omega) E26
   (by intro j hj;simp[AV.ids,F0]at hj;subst hj;exact rfl) (λo _=>E3f o ⟨(v.getD i dF_).eY,(v.getD i dF_).fA,(v.getD i dF_).ID,0,0⟩ _ i (by show i<v.length;omega) (by simp only[go_sem,go_sem_proc]))
  have hk:=D4b (d:=dF_) (p:=λo:cO=>o.ID==(v.getD i dF_).ID) (l:=old.cP)
  have hP:wsS old al i v=v.set i (wsP old al (v.getD i dF_)):=rfl;unfold wsP wsK at hP;generalize A3t dF_ (λo:cO=>o.ID==(v.getD i dF_).ID) old.cP=k at hc hk hP;refine⟨bE_,by omega,by omega,?_⟩;refine M1 hc E26 E26 (by simp[wsO]) (by simp[wsO,upd,hl,go_sem,go_sem_proc]) (by simp[wsO]) ?_ rfl ?_
  ·intro a ha j hj;simp only[List.mem_cons,List.not_mem_nil,or_false]at ha;rcases ha with rfl |rfl
   ·simp[AV.ids]at hj
   ·simp[AV.ids,F0]at hj;subst hj;exact rfl
  simp only[go_sem,go_sem_proc,wsO];by_cases h:(al&&decide (0<=k))=true
  ·rw[if_pos h];rw[if_pos (show al=true/\0<=k by simpa using h)]at hP;have h0:0<=k:=by simp at h;exact h.2
   refine⟨bE_,bE_,?_⟩;refine A8 ⟨i+1,by omega⟩ (by show now.cP.length-(i+1)<now.cP.length-i;omega) ?_;simp only[hn1,hP];refine B0 [] [] (st_ ?_)
   (repeat' (with_reducible apply And.intro)) <;> first |exact A2y _ (by omega) rfl rfl |exact eE_
  ·rw[if_neg h];rw[if_neg (show ¬(al=true/\0<=k)by simpa using h)]at hP;refine A8 ⟨i+1,by omega⟩ (by show now.cP.length-(i+1)<now.cP.length-i;omega) ?_;simp only[hn1,hP];refine B0 [] [] (st_ ?_)
   (repeat' (with_reducible apply And.intro)) <;> first |exact A2y _ (by omega) rfl rfl |exact eE_
def E21(x:cN):Int:=x.eT.fU.X
def F8z(x:cN):Int:=x.eT.fX.X
def B6i(a b:cN):Bool:= !decide (F8z a<E21 b)
def nbI(a:cN)(l:List cN):List (cN×cN):=(l.takeWhile (B6i a)).map λb=>(a,b)
def nbP(l:List cN):Nat->List (cN×cN)
 |0=> []
 |i+1=>nbP l i++nbI (l.getD i dF_) (l.drop (i+1))
def C3x(l:List cN):List (cN×cN):=nbP l l.length
def F4f(p:cN×cN):List AV:= [.agg p.1.enc, .agg p.2.enc]
theorem F6a(a:cN): ∀(m:List cN) (j:Nat),j<=m.length->(∀k,k<j->B6i a (m.getD k dF_)=true)->(j=m.length\/B6i a (m.getD j dF_)=false)->nbI a m=(m.take j).map λb=>(a,b)
 | [],j,hj,_,_=>by simp at hj;subst hj;rfl
 |b::m,0,_,_,h=>by
  rcases h with h |h
  ·simp at h
  ·simp only[List.getD_cons_zero]at h;simp[nbI,List.takeWhile,h]
 |b::m,j+1,hj,hk,h=>by have h0:=hk 0 (by omega);simp only[List.getD_cons_zero]at h0;have ih:=F6a a m j (by simpa using hj) (λk hk'=>by have:=hk (k+1) (by omega);simpa using this) (by rcases h with h |h;exact .inl (by simpa using h);exact .inr (by simpa using h));unfold nbI at ih⊢;rw[List.takeWhile_cons,if_pos h0,List.map_cons,ih,List.take_succ_cons,List.map_cons]
theorem F83(l:List cN): ∀i,i<=l.length->(nbP l i).length<=(C3x l).length:=by
 have mono: ∀k i,(nbP l i).length<=(nbP l (i+k)).length:=by
  intro k;induction k with
  |zero=>intro i;exact Nat.le_refl _
  |succ k ih=>intro i;refine Nat.le_trans (ih i) ?_;rw[show i+(k+1)=(i+k)+1 by omega,nbP,List.length_append];omega
 intro i hi;have:=mono (l.length-i) i;rwa[show i+(l.length-i)=l.length by omega]at this
theorem F2o(a:cN): ∀(m:List cN) (j:Nat),j<m.length->(∀k,k<=j->B6i a (m.getD k dF_)=true)->j+1<=(m.takeWhile (B6i a)).length
 | [],j,hj,_=>by simp at hj
 |b::m,j,hj,hk=>by
  have h0:=hk 0 (by omega);simp only[List.getD_cons_zero]at h0;rw[List.takeWhile_cons,if_pos h0,List.length_cons];cases j with
  |zero=>omega
  |succ j=>have:=F2o a m j (by simpa using hj) (λk hk'=>by have:=hk (k+1) (by omega);simpa using this);omega
theorem F6b(l:List cN)(i j:Nat)(hi:i<l.length)(hj:j<(l.drop (i+1)).length)(hk: ∀k,k<=j->B6i (l.getD i dF_) ((l.drop (i+1)).getD k dF_)=true):
  (nbP l i++((l.drop (i+1)).take j).map λb=>(l.getD i dF_,b)).length<(C3x l).length:=by
 refine Nat.lt_of_lt_of_le ?_ (F83 l (i+1) hi);rw[nbP,List.length_append,List.length_append];have:=F2o (l.getD i dF_) (l.drop (i+1)) j hj hk;unfold nbI;rw[List.length_map,List.length_map];have h2:((l.drop (i+1)).take j).length=j:=by rw[List.length_take];omega
 omega
theorem F8a(l:List cN)(i:Nat){z:Nat}{g:Nat->List AV}{n:Nat}(hn:n=l.length-(i+1))(hg: ∀k,g k=cN.enc (l.getD (i+1+k) dF_)):M9 (.dsl z n g) (.dsl z (l.drop (i+1)).length (I8 cN.enc dF_ (l.drop (i+1)))):=by subst hn;rw[U4];refine⟨rfl,by rw[List.length_drop],λk hk=> ?_⟩;rw[hg];unfold I8;rw[show(l.drop (i+1)).getD k dF_=l.getD (i+1+k) dF_ by simp[List.getD]];exact H9 _
theorem E77(l:List cN)(hl:l.length<=1048576):G0a Tryz.prog A90 [.cW [A4 5 cN.enc dF_ l]] F4f (C3x l):=by
 rintro I hE hB us W G Φ hr hlt hJ hd;refine F52 (T:= [(0, .cA, .fn (.yield I.l) [] []),(1, .cA, .cW [A4 5 cN.enc dF_ l])]) Tryz.func465 (by kernel_rfl) (cs2 A6 rfl) (by kernel_rfl) (Nat.le_of_ble_eq_true (by kernel_rfl)) hr hlt hJ hd ?_ ?_
 ·intro t av ht;simp only[A17]at ht;split at ht
  ·rename_i e;subst e;simpa using ht
  ·split at ht
   ·rename_i e;subst e;simpa using ht
   ·cases ht
 refine Yp.seq (Yp.plainN hm [(0, .cA, .fn (.yield I.l) [] []),(1, .cA, .cW [A4 5 cN.enc dF_ l]),(7, .cA,A4 5 cN.enc dF_ l),(8, .cA,sI l.length),(9, .cA,sI (0:Nat))] ?_ ?_)
 ·refine st_ ?_;refine B0 [] [] ?_;simp only[go_sem,go_sem_proc]
 refine Yp.block (Yp.loop (ι:= {i:Nat // i<=l.length}) (λi=> [(0, .cA, .fn (.yield I.l) [] []),(1, .cA, .cW [A4 5 cN.enc dF_ l]),(7, .cA,A4 5 cN.enc dF_ l),(8, .cA,sI l.length),(9, .cA,sI (i.1:Nat))]) (λi=>nbP l i.1) (λi=>l.length-i.1) ⟨0,Nat.zero_le _⟩ ?_);rintro⟨i,hi⟩;dsimp only;by_cases h:i<l.length
 ·refine Yp.seq (Yp.plainN hm [(0, .cA, .fn (.yield I.l) [] []),(1, .cA, .cW [A4 5 cN.enc dF_ l]),(7, .cA,A4 5 cN.enc dF_ l),(8, .cA,sI l.length),(9, .cA,sI (i:Nat)),(10, .cA,sB true)] ?_ ?_)
  ·refine st_ ?_;refine B0 [] [] (st_ ?_);simpa using h
  refine Yp.seq (Yp.cond (t:=true) rfl ?_);rw[if_pos rfl];refine Yp.skip hm ?_;refine Yp.seq (Yp.block (Yp.seq (Yp.plainN hm [(0, .cA, .fn (.yield I.l) [] []),(1, .cA, .cW [A4 5 cN.enc dF_ l]),(7, .cA,A4 5 cN.enc dF_ l),(8, .cA,sI l.length),(9, .cA,sI (i:Nat)),(3, .cA,sI i),(4, .eQ, .cW (l.getD i dF_).enc)] ?_ ?_)))
  ·refine st_ ?_;refine⟨⟨by omega,by omega⟩,?_⟩;refine B0 [] [] (st_ ?_);exact⟨trivial,D0 _⟩
  refine Yp.seq (Yp.plainN hm [(0, .cA, .fn (.yield I.l) [] []),(1, .cA, .cW [A4 5 cN.enc dF_ l]),(7, .cA,A4 5 cN.enc dF_ l),(8, .cA,sI l.length),(9, .cA,sI (i:Nat)),(4, .eQ, .cW (l.getD i dF_).enc),(17, .eQ,A4 5 cN.enc dF_ (l.drop (i+1))),(18, .cA,sI ((l.drop (i+1)).length)),(19, .cA,sI (0:Nat))] ?_ ?_)
  ·refine st_ ?_;refine⟨⟨by rw[IntKind.wrap_i64];omega,by rw[IntKind.wrap_i64];omega⟩,?_⟩;refine B0 [] [] (st_ ?_);have hw:IntKind.i64.wrap ((i:Int)+1)=(i:Int)+1:=by rw[IntKind.wrap_i64];omega
   have hw2:((i:Int)+1).toNat=i+1:=by omega
   rw[hw,hw2];exact⟨F8a l i (by omega) λk=>rfl,by rw[List.length_drop];omega⟩
  have tail: ∀T':J6,V9 [] (A13 T' []) [(0, .cA, .fn (.yield I.l) [] []),(1, .cA, .cW [A4 5 cN.enc dF_ l]),(7, .cA,A4 5 cN.enc dF_ l),(8, .cA,sI l.length),(9, .cA,sI (i:Nat))] []->Yp I Tryz.f465.ntmps (.region false [⟨some 38, .bin .add (.t 9) (.k (sI 1)),none,[]⟩,⟨some 9, .mov (.t 38),none,[]⟩]) (F27 (λT' p'=> ∃i',(λi=>l.length-i.1) i'<l.length-i/\T'=(λi: {i:Nat // i<=l.length}=> [(0, .cA, .fn (.yield I.l) [] []),(1, .cA, .cW [A4 5 cN.enc dF_ l]),(7, .cA,A4 5 cN.enc dF_ l),(8, .cA,sI l.length),(9, .cA,sI (i.1:Nat))]) i'/\p'=(λi: {i:Nat // i<=l.length}=>nbP l i.1) i') (E61 0 λo x p=>(o=Out.normal\/o=Out.ret)/\p=C3x l)) T' (nbP l (i+1)):=by
   intro T' hT';refine Yp.plain (Wp.weak hT' (Wp.of_W hm _ (show @Wi Tryz.prog _ [] _ (⟨λo τ=>o= .normal/\V9 [] τ [(0, .cA, .fn (.yield I.l) [] []),(1, .cA, .cW [A4 5 cN.enc dF_ l]),(7, .cA,A4 5 cN.enc dF_ l),(8, .cA,sI l.length),(9, .cA,sI (i+1:Nat))] []⟩) _ from ?_))|>.mono λo τ ho=> ?_)
   ·refine st_ ?_;refine B0 [] [] (st_ ?_);rw[IntKind.wrap_i64];omega
   ·obtain⟨rfl,ho⟩:=ho;exact⟨_,⟨⟨i+1,h⟩,by show l.length-(i+1)<l.length-i;omega,rfl,rfl⟩,ho⟩
  refine Yp.block (Yp.pre_eq (pre':=nbP l i++((l.drop (i+1)).take 0).map λb=>(l.getD i dF_,b)) (by simp) (Yp.loop (ι:= {j:Nat // j<=(l.drop (i+1)).length/\ ∀k,k<j->B6i (l.getD i dF_) ((l.drop (i+1)).getD k dF_)=true}) (λj=> [(0, .cA, .fn (.yield I.l) [] []),(1, .cA, .cW [A4 5 cN.enc dF_ l]),(7, .cA,A4 5 cN.enc dF_ l),(8, .cA,sI l.length),(9, .cA,sI (i:Nat)),(4, .eQ, .cW (l.getD i dF_).enc),(17, .eQ,A4 5 cN.enc dF_ (l.drop (i+1))),(18, .cA,sI ((l.drop (i+1)).length)),(19, .cA,sI (j.1:Nat))]) (λj=>nbP l i++((l.drop (i+1)).take j.1).map λb=>(l.getD i dF_,b)) (λj=>(l.drop (i+1)).length-j.1) ⟨0,Nat.zero_le _,λk hk=>by omega⟩ ?_));rintro⟨j,hj,hk⟩;dsimp only;have hdl:(l.drop (i+1)).length=l.length-(i+1):=List.length_drop
  have fin:(j=(l.drop (i+1)).length\/B6i (l.getD i dF_) ((l.drop (i+1)).getD j dF_)=false)->nbP l i++(((l.drop (i+1)).take j).map λb=>(l.getD i dF_,b))=nbP l (i+1):=λhe=>by rw[nbP,F6a (l.getD i dF_) (l.drop (i+1)) j hj hk he]
  by_cases h2:j<(l.drop (i+1)).length
  ·refine Yp.seq (Yp.plainN hm [(0, .cA, .fn (.yield I.l) [] []),(1, .cA, .cW [A4 5 cN.enc dF_ l]),(7, .cA,A4 5 cN.enc dF_ l),(8, .cA,sI l.length),(9, .cA,sI (i:Nat)),(4, .eQ, .cW (l.getD i dF_).enc),(17, .eQ,A4 5 cN.enc dF_ (l.drop (i+1))),(18, .cA,sI ((l.drop (i+1)).length)),(19, .cA,sI (j:Nat)),(20, .cA,sB true)] ?_ ?_)
   ·refine st_ ?_;refine B0 [] [] (st_ ?_);omega
   refine Yp.seq (Yp.cond (t:=true) rfl ?_);rw[if_pos rfl];refine Yp.skip hm ?_;refine Yp.seq (Yp.block (Yp.seq (Yp.plainN hm [(0, .cA, .fn (.yield I.l) [] []),(1, .cA, .cW [A4 5 cN.enc dF_ l]),(7, .cA,A4 5 cN.enc dF_ l),(8, .cA,sI l.length),(9, .cA,sI (i:Nat)),(4, .eQ, .cW (l.getD i dF_).enc),(17, .eQ,A4 5 cN.enc dF_ (l.drop (i+1))),(18, .cA,sI ((l.drop (i+1)).length)),(19, .cA,sI (j:Nat)),(6, .eQ, .cW ((l.drop (i+1)).getD j dF_).enc)] ?_ ?_)))
   ·refine st_ ?_;refine⟨⟨by omega,by omega⟩,?_⟩;refine B0 [] [] ?_;simp only[go_sem,go_sem_proc]
    all_goals((repeat' (with_reducible apply And.intro)) <;> trivial)
   by_cases hb:B6i (l.getD i dF_) ((l.drop (i+1)).getD j dF_)=true
   ·have hb': ¬F8z (l.getD i dF_)<E21 ((l.drop (i+1)).getD j dF_):=by simpa[B6i]using hb
    refine Yp.seq (Yp.seq (Yp.plainN hm [(0, .cA, .fn (.yield I.l) [] []),(1, .cA, .cW [A4 5 cN.enc dF_ l]),(7, .cA,A4 5 cN.enc dF_ l),(8, .cA,sI l.length),(9, .cA,sI (i:Nat)),(4, .eQ, .cW (l.getD i dF_).enc),(17, .eQ,A4 5 cN.enc dF_ (l.drop (i+1))),(18, .cA,sI ((l.drop (i+1)).length)),(19, .cA,sI (j:Nat)),(6, .eQ, .cW ((l.drop (i+1)).getD j dF_).enc),(31, .cA,sB false)] ?_ ?_))
    ·refine st_ ?_;refine B0 [] [] (st_ ?_);exact decide_eq_false hb'
    refine Yp.cond (t:=false) rfl ?_;rw[if_neg (by simp)];refine Yp.skip hm ?_;refine Yp.seq (Yp.yieldI (pr:= [_,_,_]) (po:= [_]) (d:=35) (x:= .t 32) (xs:= [.t 33, .t 34]) (l.getD i dF_,(l.drop (i+1)).getD j dF_) [(0, .cA, .fn (.yield I.l) [] []),(1, .cA, .cW [A4 5 cN.enc dF_ l]),(7, .cA,A4 5 cN.enc dF_ l),(8, .cA,sI l.length),(9, .cA,sI (i:Nat)),(4, .eQ, .cW (l.getD i dF_).enc),(17, .eQ,A4 5 cN.enc dF_ (l.drop (i+1))),(18, .cA,sI ((l.drop (i+1)).length)),(19, .cA,sI (j:Nat)),(36, .cA,sB false)] ?_ ?_ ?_ ?_)
    ·rw[hB];exact F6b l i j h h2 λk hk'=>by
      rcases Nat.lt_or_ge k j with h3 |h3
      ·exact hk k h3
      ·obtain rfl:k=j:=by omega
       exact hb
    ·rw[hE];intro av hav;simp only[F4f,List.mem_cons,List.not_mem_nil,or_false]at hav;rcases hav with rfl |rfl <;> exact⟨rfl,rfl⟩
    ·simp only[go_sem,go_sem_proc,F42];refine⟨by rw[hE];rfl,?_⟩;refine B0 [] [] ?_;simp only[go_sem,go_sem_proc]
    refine Yp.cond (t:=false) rfl ?_;rw[if_neg (by simp)];refine Yp.skip hm ?_;refine Yp.plainN hm [(0, .cA, .fn (.yield I.l) [] []),(1, .cA, .cW [A4 5 cN.enc dF_ l]),(7, .cA,A4 5 cN.enc dF_ l),(8, .cA,sI l.length),(9, .cA,sI (i:Nat)),(4, .eQ, .cW (l.getD i dF_).enc),(17, .eQ,A4 5 cN.enc dF_ (l.drop (i+1))),(18, .cA,sI ((l.drop (i+1)).length)),(19, .cA,sI (j+1:Nat))] ?_ ⟨⟨j+1,h2,λk hk'=>by
      rcases Nat.lt_or_ge k j with h3 |h3
      ·exact hk k h3
      ·obtain rfl:k=j:=by omega
       exact hb⟩,by show(l.drop (i+1)).length-(j+1)<(l.drop (i+1)).length-j;omega,rfl,?_⟩
    ·refine st_ ?_;refine B0 [] [] (st_ ?_);rw[IntKind.wrap_i64];omega
    ·show _=nbP l i++((l.drop (i+1)).take (j+1)).map λb=>(l.getD i dF_,b);rw[L5 dF_ h2,List.map_append,List.append_assoc];rfl
   ·have hb':F8z (l.getD i dF_)<E21 ((l.drop (i+1)).getD j dF_):=by simpa[B6i]using hb
    refine Yp.seq (Yp.seq (Yp.plainN hm [(0, .cA, .fn (.yield I.l) [] []),(1, .cA, .cW [A4 5 cN.enc dF_ l]),(7, .cA,A4 5 cN.enc dF_ l),(8, .cA,sI l.length),(9, .cA,sI (i:Nat)),(4, .eQ, .cW (l.getD i dF_).enc),(17, .eQ,A4 5 cN.enc dF_ (l.drop (i+1))),(18, .cA,sI ((l.drop (i+1)).length)),(19, .cA,sI (j:Nat)),(6, .eQ, .cW ((l.drop (i+1)).getD j dF_).enc),(31, .cA,sB true)] ?_ ?_))
    ·refine st_ ?_;refine B0 [] [] (st_ ?_);exact hb'
    refine Yp.cond (t:=true) rfl ?_;rw[if_pos rfl];refine Yp.exit ?_;show Yp I _ _ _ _ _;rw[fin (.inr (by simpa using hb))];refine tail _ ?_;refine B0 [] [] ?_;simp only[go_sem,go_sem_proc]
  ·refine Yp.seq (Yp.plainN hm [(0, .cA, .fn (.yield I.l) [] []),(1, .cA, .cW [A4 5 cN.enc dF_ l]),(7, .cA,A4 5 cN.enc dF_ l),(8, .cA,sI l.length),(9, .cA,sI (i:Nat)),(4, .eQ, .cW (l.getD i dF_).enc),(17, .eQ,A4 5 cN.enc dF_ (l.drop (i+1))),(18, .cA,sI ((l.drop (i+1)).length)),(19, .cA,sI (j:Nat)),(20, .cA,sB false)] ?_ ?_)
   ·refine st_ ?_;refine B0 [] [] (st_ ?_)
    trace_state
    simpa using h2
   refine Yp.seq (Yp.cond (t:=false) rfl ?_);rw[if_neg (by simp)];refine Yp.exit ?_;show Yp I _ _ _ _ _;rw[fin (.inl (by omega))];refine tail _ ?_;refine B0 [] [] ?_;simp only[go_sem,go_sem_proc]
 ·refine Yp.seq (Yp.plainN hm [(0, .cA, .fn (.yield I.l) [] []),(1, .cA, .cW [A4 5 cN.enc dF_ l]),(7, .cA,A4 5 cN.enc dF_ l),(8, .cA,sI l.length),(9, .cA,sI (i:Nat)),(10, .cA,sB false)] ?_ ?_)
  ·refine st_ ?_;refine B0 [] [] (st_ ?_)
   trace_state
   simpa using h
  refine Yp.seq (Yp.cond (t:=false) rfl ?_);rw[if_neg (by simp)];refine Yp.exit ?_;obtain rfl:i=l.length:=by omega
  exact⟨.inl rfl,rfl⟩
end Go.Abs
end
noncomputable section
namespace Go.Proofs
open Go.Shelf
def Tryz.lays189_ren:Go.Shelf.Ren:=⟨λ|189=>268 |125=>373 |257=>402 |128=>479 |129=>480 |294=>502 |295=>503 |296=>504 |297=>505 |298=>506 |299=>507 |216=>188 |300=>508 |301=>509 |328=>546 |329=>536 |330=>537 |331=>547 |332=>548 |215=>319 |343=>569 |n=>n,λ|28=>43 |3=>3 |46=>290 |0=>0 |51=>500 |53=>151 |4=>4 |183=>512 |182=>511 |131=>205 |5=>5 |9=>9 |218=>562 |222=>566 |228=>588 |229=>303 |n=>n,λ|n=>n⟩
theorem Tryz.lays189:Go.Proofs.Lays.n189 Tryz.prog Tryz.lays189_ren:= {
 mixed:=by kernel_rfl
 f125:=Tryz.func373.trans (congrArg some (by kernel_rfl))
 f128:=Tryz.func479.trans (congrArg some (by kernel_rfl))
 f129:=Tryz.func480.trans (congrArg some (by kernel_rfl))
 f189:=Tryz.func268.trans (congrArg some (by kernel_rfl))
 f215:=Tryz.func319.trans (congrArg some (by kernel_rfl))
 f216:=Tryz.func188.trans (congrArg some (by kernel_rfl))
 f257:=Tryz.func402.trans (congrArg some (by kernel_rfl))
 f294:=Tryz.func502.trans (congrArg some (by kernel_rfl))
 f295:=Tryz.func503.trans (congrArg some (by kernel_rfl))
 f296:=Tryz.func504.trans (congrArg some (by kernel_rfl))
 f297:=Tryz.func505.trans (congrArg some (by kernel_rfl))
 f298:=Tryz.func506.trans (congrArg some (by kernel_rfl))
 f299:=Tryz.func507.trans (congrArg some (by kernel_rfl))
 f300:=Tryz.func508.trans (congrArg some (by kernel_rfl))
 f301:=Tryz.func509.trans (congrArg some (by kernel_rfl))
 f328:=Tryz.func546.trans (congrArg some (by kernel_rfl))
 f329:=Tryz.func536.trans (congrArg some (by kernel_rfl))
 f330:=Tryz.func537.trans (congrArg some (by kernel_rfl))
 f331:=Tryz.func547.trans (congrArg some (by kernel_rfl))
 f332:=Tryz.func548.trans (congrArg some (by kernel_rfl))
 f343:=Tryz.func569.trans (congrArg some (by kernel_rfl))
 t0:=Tryz.underlying0
 a0:=Tryz.isAgg0
 z0:=Tryz.sizeOf0
 v0:=Tryz.zeroValue0
 t3:=Tryz.underlying3
 a3:=Tryz.isAgg3
 z3:=Tryz.sizeOf3
 v3:=Tryz.zeroValue3
 t4:=Tryz.underlying4
 a4:=Tryz.isAgg4
 z4:=Tryz.sizeOf4
 v4:=Tryz.zeroValue4
 t5:=Tryz.underlying5
 a5:=Tryz.isAgg5
 z5:=Tryz.sizeOf5
 v5:=Tryz.zeroValue5
 t9:=Tryz.underlying9
 a9:=Tryz.isAgg9
 z9:=Tryz.sizeOf9
 v9:=Tryz.zeroValue9
 t28:=Tryz.underlying43
 a28:=Tryz.isAgg43
 z28:=Tryz.sizeOf43
 v28:=Tryz.zeroValue43
 t46:=Tryz.underlying290
 a46:=Tryz.isAgg290
 z46:=Tryz.sizeOf290
 v46:=Tryz.zeroValue290
 t51:=Tryz.underlying500
 a51:=Tryz.isAgg500
 z51:=Tryz.sizeOf500
 v51:=Tryz.zeroValue500
 t53:=Tryz.underlying151
 a53:=Tryz.isAgg151
 z53:=Tryz.sizeOf151
 v53:=Tryz.zeroValue151
 t131:=Tryz.underlying205
 a131:=Tryz.isAgg205
 z131:=Tryz.sizeOf205
 v131:=Tryz.zeroValue205
 t182:=Tryz.underlying511
 a182:=Tryz.isAgg511
 z182:=Tryz.sizeOf511
 v182:=Tryz.zeroValue511
 t183:=Tryz.underlying512
 a183:=Tryz.isAgg512
 z183:=Tryz.sizeOf512
 v183:=Tryz.zeroValue512
 t218:=Tryz.underlying562
 a218:=Tryz.isAgg562
 z218:=Tryz.sizeOf562
 v218:=Tryz.zeroValue562
 t222:=Tryz.underlying566
 a222:=Tryz.isAgg566
 z222:=Tryz.sizeOf566
 v222:=Tryz.zeroValue566
 t228:=Tryz.underlying588
 a228:=Tryz.isAgg588
 z228:=Tryz.sizeOf588
 v228:=Tryz.zeroValue588
 t229:=Tryz.underlying303
 a229:=Tryz.isAgg303
 z229:=Tryz.sizeOf303
 v229:=Tryz.zeroValue303}
open Go.Sort Go.RowKit in
theorem Tryz.slices_Sort_int(blk off cap:Nat)(zs:List Int)(w:World)(hH:Holds (Value.int .i64) w blk off zs.toArray)(hblk:blk<w.heap.size)(hsz:zs.length<4611686018427387904):
  Calls Tryz.prog 268 #[.slice (some ⟨blk,off,none⟩) zs.length cap] w λe w'=>e= .returned (.tuple #[])/\ ∃n os,w'=grow (putRow (Value.int .i64) (Sort.ahead w n) blk off (zs.mergeSort λx y=>decide (x<=y)).toArray) os:=Any.slices_Sort_int Tryz.lays189 blk off cap zs w hH hblk hsz
def Tryz.laysNm220_ren:Go.Shelf.Ren:=⟨λ|20=>269 |n=>n,λ|22=>43 |3=>3 |4=>4 |0=>0 |n=>n,λ|n=>n⟩
theorem Tryz.laysNm220:Go.Proofs.Lays2.n20 Tryz.prog Tryz.laysNm220_ren:= {
 mixed:=by kernel_rfl
 f20:=Tryz.func269.trans (congrArg some (by kernel_rfl))
 t0:=Tryz.underlying0
 a0:=Tryz.isAgg0
 z0:=Tryz.sizeOf0
 v0:=Tryz.zeroValue0
 t3:=Tryz.underlying3
 a3:=Tryz.isAgg3
 z3:=Tryz.sizeOf3
 v3:=Tryz.zeroValue3
 t4:=Tryz.underlying4
 a4:=Tryz.isAgg4
 z4:=Tryz.sizeOf4
 v4:=Tryz.zeroValue4
 t22:=Tryz.underlying43
 a22:=Tryz.isAgg43
 z22:=Tryz.sizeOf43
 v22:=Tryz.zeroValue43
 i3:=by kernel_rfl}
open Go.RowKit Go.Lib Go.Sort in
theorem Tryz.slices_Compact_int(blk off cap:Nat)(zs:List Int)(w:World)(hH:Holds (Value.int .i64) w blk off zs.toArray)(hsz:zs.length<=9223372036854775807)(hcap:zs.length<=cap):
  Calls Tryz.prog 269 #[.slice (some ⟨blk,off,none⟩) zs.length cap] w λe w'=>e= .returned (.slice (some ⟨blk,off,none⟩) (Lib.compact zs).length cap)/\ ∃q,w'=putRow (Value.int .i64) (Sort.ahead w q) blk off (Lib.compact zs++List.replicate (zs.length-(Lib.compact zs).length) 0).toArray:=Any.slices_Compact_int Tryz.laysNm220 blk off cap zs w hH hsz hcap
open Go.RowKit Go.Lib Go.Sort in
theorem Tryz.slices_Compact_int_empty(a:Option Addr)(cap:Nat)(w:World):
  Calls Tryz.prog 269 #[.slice a 0 cap] w λe w'=>e= .returned (.slice a 0 cap)/\w'=w:=Any.slices_Compact_int_empty Tryz.laysNm220 a cap w
open Go.RowKit Go.Sort in
theorem Tryz.slices_Sort_int_none(p:Option Addr)(cap:Nat)(w:World):
  Calls Tryz.prog 268 #[.slice p 0 cap] w λe w'=>e= .returned (.tuple #[])/\w'=w:=Any.slices_Sort_int_none Tryz.lays189 p cap w
def Tryz.laySF_PairKey_ren:Go.Shelf.Ren:=⟨λ|6=>246 |15=>373 |14=>372 |28=>479 |29=>480 |20=>471 |21=>472 |22=>473 |23=>474 |24=>475 |25=>476 |26=>477 |27=>478 |46=>535 |47=>536 |48=>537 |49=>538 |50=>539 |57=>566 |n=>n,λ|22=>29 |24=>129 |25=>352 |3=>3 |39=>290 |0=>0 |53=>500 |55=>151 |4=>4 |46=>512 |45=>511 |50=>205 |5=>5 |9=>9 |66=>562 |70=>566 |76=>588 |77=>303 |n=>n,λ|n=>n⟩
theorem Tryz.laySF_PairKey:Go.Proofs.SlLaysF0.n6 Tryz.prog Tryz.laySF_PairKey_ren:= {
 mixed:=by kernel_rfl
 f6:=⟨Tryz.f246.name,by decide,Tryz.func246.trans (congrArg some (by kernel_rfl))⟩
 f14:=⟨Tryz.f372.name,by decide,Tryz.func372.trans (congrArg some (by kernel_rfl))⟩
 f15:=Tryz.func373.trans (congrArg some (by kernel_rfl))
 f20:=⟨Tryz.f471.name,by decide,Tryz.func471.trans (congrArg some (by kernel_rfl))⟩
 f21:=⟨Tryz.f472.name,by decide,Tryz.func472.trans (congrArg some (by kernel_rfl))⟩
 f22:=⟨Tryz.f473.name,by decide,Tryz.func473.trans (congrArg some (by kernel_rfl))⟩
 f23:=⟨Tryz.f474.name,by decide,Tryz.func474.trans (congrArg some (by kernel_rfl))⟩
 f24:=⟨Tryz.f475.name,by decide,Tryz.func475.trans (congrArg some (by kernel_rfl))⟩
 f25:=⟨Tryz.f476.name,by decide,Tryz.func476.trans (congrArg some (by kernel_rfl))⟩
 f26:=⟨Tryz.f477.name,by decide,Tryz.func477.trans (congrArg some (by kernel_rfl))⟩
 f27:=⟨Tryz.f478.name,by decide,Tryz.func478.trans (congrArg some (by kernel_rfl))⟩
 f28:=Tryz.func479.trans (congrArg some (by kernel_rfl))
 f29:=Tryz.func480.trans (congrArg some (by kernel_rfl))
 f46:=⟨Tryz.f535.name,by decide,Tryz.func535.trans (congrArg some (by kernel_rfl))⟩
 f47:=Tryz.func536.trans (congrArg some (by kernel_rfl))
 f48:=Tryz.func537.trans (congrArg some (by kernel_rfl))
 f49:=⟨Tryz.f538.name,by decide,Tryz.func538.trans (congrArg some (by kernel_rfl))⟩
 f50:=⟨Tryz.f539.name,by decide,Tryz.func539.trans (congrArg some (by kernel_rfl))⟩
 f57:=⟨Tryz.f566.name,by decide,Tryz.func566.trans (congrArg some (by kernel_rfl))⟩
 t0:=Tryz.underlying0
 a0:=Tryz.isAgg0
 z0:=Tryz.sizeOf0
 v0:=Tryz.zeroValue0
 t3:=Tryz.underlying3
 a3:=Tryz.isAgg3
 z3:=Tryz.sizeOf3
 v3:=Tryz.zeroValue3
 t4:=Tryz.underlying4
 a4:=Tryz.isAgg4
 z4:=Tryz.sizeOf4
 v4:=Tryz.zeroValue4
 t5:=Tryz.underlying5
 a5:=Tryz.isAgg5
 z5:=Tryz.sizeOf5
 v5:=Tryz.zeroValue5
 t9:=Tryz.underlying9
 a9:=Tryz.isAgg9
 z9:=Tryz.sizeOf9
 v9:=Tryz.zeroValue9
 t22:=Tryz.underlying29
 a22:=Tryz.isAgg29
 z22:=Tryz.sizeOf29
 v22:=Tryz.zeroValue29
 t25:=Tryz.underlying352
 a25:=Tryz.isAgg352
 z25:=Tryz.sizeOf352
 v25:=Tryz.zeroValue352
 t39:=Tryz.underlying290
 a39:=Tryz.isAgg290
 z39:=Tryz.sizeOf290
 v39:=Tryz.zeroValue290
 t45:=Tryz.underlying511
 a45:=Tryz.isAgg511
 z45:=Tryz.sizeOf511
 v45:=Tryz.zeroValue511
 t46:=Tryz.underlying512
 a46:=Tryz.isAgg512
 z46:=Tryz.sizeOf512
 v46:=Tryz.zeroValue512
 t50:=Tryz.underlying205
 a50:=Tryz.isAgg205
 z50:=Tryz.sizeOf205
 v50:=Tryz.zeroValue205
 t53:=Tryz.underlying500
 a53:=Tryz.isAgg500
 z53:=Tryz.sizeOf500
 v53:=Tryz.zeroValue500
 t55:=Tryz.underlying151
 a55:=Tryz.isAgg151
 z55:=Tryz.sizeOf151
 v55:=Tryz.zeroValue151
 t66:=Tryz.underlying562
 a66:=Tryz.isAgg562
 z66:=Tryz.sizeOf562
 v66:=Tryz.zeroValue562
 t70:=Tryz.underlying566
 a70:=Tryz.isAgg566
 z70:=Tryz.sizeOf566
 v70:=Tryz.zeroValue566
 t76:=Tryz.underlying588
 a76:=Tryz.isAgg588
 z76:=Tryz.sizeOf588
 v76:=Tryz.zeroValue588
 t77:=Tryz.underlying303
 a77:=Tryz.isAgg303
 z77:=Tryz.sizeOf303
 v77:=Tryz.zeroValue303}
def Tryz.laySF_2_int_ren:Go.Shelf.Ren:=⟨λ|6=>368 |15=>373 |14=>468 |28=>479 |29=>480 |20=>527 |21=>528 |22=>529 |23=>530 |24=>531 |25=>532 |26=>533 |27=>534 |46=>563 |47=>536 |48=>537 |49=>564 |50=>565 |57=>575 |n=>n,λ|22=>344 |24=>346 |25=>447 |3=>3 |39=>290 |0=>0 |53=>500 |55=>151 |4=>4 |46=>512 |45=>511 |50=>205 |5=>5 |9=>9 |66=>562 |70=>566 |76=>588 |77=>303 |n=>n,λ|n=>n⟩
theorem Tryz.laySF_2_int:Go.Proofs.SlLaysF0.n6 Tryz.prog Tryz.laySF_2_int_ren:= {
 mixed:=by kernel_rfl
 f6:=⟨Tryz.f368.name,by decide,Tryz.func368.trans (congrArg some (by kernel_rfl))⟩
 f14:=⟨Tryz.f468.name,by decide,Tryz.func468.trans (congrArg some (by kernel_rfl))⟩
 f15:=Tryz.func373.trans (congrArg some (by kernel_rfl))
 f20:=⟨Tryz.f527.name,by decide,Tryz.func527.trans (congrArg some (by kernel_rfl))⟩
 f21:=⟨Tryz.f528.name,by decide,Tryz.func528.trans (congrArg some (by kernel_rfl))⟩
 f22:=⟨Tryz.f529.name,by decide,Tryz.func529.trans (congrArg some (by kernel_rfl))⟩
 f23:=⟨Tryz.f530.name,by decide,Tryz.func530.trans (congrArg some (by kernel_rfl))⟩
 f24:=⟨Tryz.f531.name,by decide,Tryz.func531.trans (congrArg some (by kernel_rfl))⟩
 f25:=⟨Tryz.f532.name,by decide,Tryz.func532.trans (congrArg some (by kernel_rfl))⟩
 f26:=⟨Tryz.f533.name,by decide,Tryz.func533.trans (congrArg some (by kernel_rfl))⟩
 f27:=⟨Tryz.f534.name,by decide,Tryz.func534.trans (congrArg some (by kernel_rfl))⟩
 f28:=Tryz.func479.trans (congrArg some (by kernel_rfl))
 f29:=Tryz.func480.trans (congrArg some (by kernel_rfl))
 f46:=⟨Tryz.f563.name,by decide,Tryz.func563.trans (congrArg some (by kernel_rfl))⟩
 f47:=Tryz.func536.trans (congrArg some (by kernel_rfl))
 f48:=Tryz.func537.trans (congrArg some (by kernel_rfl))
 f49:=⟨Tryz.f564.name,by decide,Tryz.func564.trans (congrArg some (by kernel_rfl))⟩
 f50:=⟨Tryz.f565.name,by decide,Tryz.func565.trans (congrArg some (by kernel_rfl))⟩
 f57:=⟨Tryz.f575.name,by decide,Tryz.func575.trans (congrArg some (by kernel_rfl))⟩
 t0:=Tryz.underlying0
 a0:=Tryz.isAgg0
 z0:=Tryz.sizeOf0
 v0:=Tryz.zeroValue0
 t3:=Tryz.underlying3
 a3:=Tryz.isAgg3
 z3:=Tryz.sizeOf3
 v3:=Tryz.zeroValue3
 t4:=Tryz.underlying4
 a4:=Tryz.isAgg4
 z4:=Tryz.sizeOf4
 v4:=Tryz.zeroValue4
 t5:=Tryz.underlying5
 a5:=Tryz.isAgg5
 z5:=Tryz.sizeOf5
 v5:=Tryz.zeroValue5
 t9:=Tryz.underlying9
 a9:=Tryz.isAgg9
 z9:=Tryz.sizeOf9
 v9:=Tryz.zeroValue9
 t22:=Tryz.underlying344
 a22:=Tryz.isAgg344
 z22:=Tryz.sizeOf344
 v22:=Tryz.zeroValue344
 t25:=Tryz.underlying447
 a25:=Tryz.isAgg447
 z25:=Tryz.sizeOf447
 v25:=Tryz.zeroValue447
 t39:=Tryz.underlying290
 a39:=Tryz.isAgg290
 z39:=Tryz.sizeOf290
 v39:=Tryz.zeroValue290
 t45:=Tryz.underlying511
 a45:=Tryz.isAgg511
 z45:=Tryz.sizeOf511
 v45:=Tryz.zeroValue511
 t46:=Tryz.underlying512
 a46:=Tryz.isAgg512
 z46:=Tryz.sizeOf512
 v46:=Tryz.zeroValue512
 t50:=Tryz.underlying205
 a50:=Tryz.isAgg205
 z50:=Tryz.sizeOf205
 v50:=Tryz.zeroValue205
 t53:=Tryz.underlying500
 a53:=Tryz.isAgg500
 z53:=Tryz.sizeOf500
 v53:=Tryz.zeroValue500
 t55:=Tryz.underlying151
 a55:=Tryz.isAgg151
 z55:=Tryz.sizeOf151
 v55:=Tryz.zeroValue151
 t66:=Tryz.underlying562
 a66:=Tryz.isAgg562
 z66:=Tryz.sizeOf562
 v66:=Tryz.zeroValue562
 t70:=Tryz.underlying566
 a70:=Tryz.isAgg566
 z70:=Tryz.sizeOf566
 v70:=Tryz.zeroValue566
 t76:=Tryz.underlying588
 a76:=Tryz.isAgg588
 z76:=Tryz.sizeOf588
 v76:=Tryz.zeroValue588
 t77:=Tryz.underlying303
 a77:=Tryz.isAgg303
 z77:=Tryz.sizeOf303
 v77:=Tryz.zeroValue303}
def Tryz.laySF_Entry_ren:Go.Shelf.Ren:=⟨λ|6=>466 |15=>373 |14=>526 |28=>479 |29=>480 |20=>555 |21=>556 |22=>557 |23=>558 |24=>559 |25=>560 |26=>561 |27=>562 |46=>572 |47=>536 |48=>537 |49=>573 |50=>574 |57=>576 |n=>n,λ|22=>340 |24=>441 |25=>507 |3=>3 |39=>290 |0=>0 |53=>500 |55=>151 |4=>4 |46=>512 |45=>511 |50=>205 |5=>5 |9=>9 |66=>562 |70=>566 |76=>588 |77=>303 |n=>n,λ|n=>n⟩
theorem Tryz.laySF_Entry:Go.Proofs.SlLaysF0.n6 Tryz.prog Tryz.laySF_Entry_ren:= {
 mixed:=by kernel_rfl
 f6:=⟨Tryz.f466.name,by decide,Tryz.func466.trans (congrArg some (by kernel_rfl))⟩
 f14:=⟨Tryz.f526.name,by decide,Tryz.func526.trans (congrArg some (by kernel_rfl))⟩
 f15:=Tryz.func373.trans (congrArg some (by kernel_rfl))
 f20:=⟨Tryz.f555.name,by decide,Tryz.func555.trans (congrArg some (by kernel_rfl))⟩
 f21:=⟨Tryz.f556.name,by decide,Tryz.func556.trans (congrArg some (by kernel_rfl))⟩
 f22:=⟨Tryz.f557.name,by decide,Tryz.func557.trans (congrArg some (by kernel_rfl))⟩
 f23:=⟨Tryz.f558.name,by decide,Tryz.func558.trans (congrArg some (by kernel_rfl))⟩
 f24:=⟨Tryz.f559.name,by decide,Tryz.func559.trans (congrArg some (by kernel_rfl))⟩
 f25:=⟨Tryz.f560.name,by decide,Tryz.func560.trans (congrArg some (by kernel_rfl))⟩
 f26:=⟨Tryz.f561.name,by decide,Tryz.func561.trans (congrArg some (by kernel_rfl))⟩
 f27:=⟨Tryz.f562.name,by decide,Tryz.func562.trans (congrArg some (by kernel_rfl))⟩
 f28:=Tryz.func479.trans (congrArg some (by kernel_rfl))
 f29:=Tryz.func480.trans (congrArg some (by kernel_rfl))
 f46:=⟨Tryz.f572.name,by decide,Tryz.func572.trans (congrArg some (by kernel_rfl))⟩
 f47:=Tryz.func536.trans (congrArg some (by kernel_rfl))
 f48:=Tryz.func537.trans (congrArg some (by kernel_rfl))
 f49:=⟨Tryz.f573.name,by decide,Tryz.func573.trans (congrArg some (by kernel_rfl))⟩
 f50:=⟨Tryz.f574.name,by decide,Tryz.func574.trans (congrArg some (by kernel_rfl))⟩
 f57:=⟨Tryz.f576.name,by decide,Tryz.func576.trans (congrArg some (by kernel_rfl))⟩
 t0:=Tryz.underlying0
 a0:=Tryz.isAgg0
 z0:=Tryz.sizeOf0
 v0:=Tryz.zeroValue0
 t3:=Tryz.underlying3
 a3:=Tryz.isAgg3
 z3:=Tryz.sizeOf3
 v3:=Tryz.zeroValue3
 t4:=Tryz.underlying4
 a4:=Tryz.isAgg4
 z4:=Tryz.sizeOf4
 v4:=Tryz.zeroValue4
 t5:=Tryz.underlying5
 a5:=Tryz.isAgg5
 z5:=Tryz.sizeOf5
 v5:=Tryz.zeroValue5
 t9:=Tryz.underlying9
 a9:=Tryz.isAgg9
 z9:=Tryz.sizeOf9
 v9:=Tryz.zeroValue9
 t22:=Tryz.underlying340
 a22:=Tryz.isAgg340
 z22:=Tryz.sizeOf340
 v22:=Tryz.zeroValue340
 t25:=Tryz.underlying507
 a25:=Tryz.isAgg507
 z25:=Tryz.sizeOf507
 v25:=Tryz.zeroValue507
 t39:=Tryz.underlying290
 a39:=Tryz.isAgg290
 z39:=Tryz.sizeOf290
 v39:=Tryz.zeroValue290
 t45:=Tryz.underlying511
 a45:=Tryz.isAgg511
 z45:=Tryz.sizeOf511
 v45:=Tryz.zeroValue511
 t46:=Tryz.underlying512
 a46:=Tryz.isAgg512
 z46:=Tryz.sizeOf512
 v46:=Tryz.zeroValue512
 t50:=Tryz.underlying205
 a50:=Tryz.isAgg205
 z50:=Tryz.sizeOf205
 v50:=Tryz.zeroValue205
 t53:=Tryz.underlying500
 a53:=Tryz.isAgg500
 z53:=Tryz.sizeOf500
 v53:=Tryz.zeroValue500
 t55:=Tryz.underlying151
 a55:=Tryz.isAgg151
 z55:=Tryz.sizeOf151
 v55:=Tryz.zeroValue151
 t66:=Tryz.underlying562
 a66:=Tryz.isAgg562
 z66:=Tryz.sizeOf562
 v66:=Tryz.zeroValue562
 t70:=Tryz.underlying566
 a70:=Tryz.isAgg566
 z70:=Tryz.sizeOf566
 v70:=Tryz.zeroValue566
 t76:=Tryz.underlying588
 a76:=Tryz.isAgg588
 z76:=Tryz.sizeOf588
 v76:=Tryz.zeroValue588
 t77:=Tryz.underlying303
 a77:=Tryz.isAgg303
 z77:=Tryz.sizeOf303
 v77:=Tryz.zeroValue303}
end Go.Proofs
end
noncomputable section
namespace Go.Abs
open Go.Proofs
open Api
open Go.Sort
def B62(l:List Int):List Int:=l.mergeSort λx y=>decide (x<=y)
theorem C2o(l:List Int):(B62 l).length=l.length:=by simp[B62]
theorem F59 {l:List Int}{x:Int}:x∈B62 l↔x∈l:=by simp[B62]
theorem D5w(l:List Int)(hl:l.length<4611686018427387904):cA_ D5b [.sl 1 0 l.length l.length] [(1, .arr 1 (A9 C6 0 l))] (.tup []) [(1, .arr 1 (A9 C6 0 (B62 l)))]:=
 G55 (by kernel_rfl) l (B62 l) (C2o l) (λ_ _=> .tuple #[]) (.tup []) (λG w ob i a cap _ _ _=> .tup #[] rfl (λj av h=>by simp at h))
  (λblk cap w hH hb hc=>Tryz.slices_Sort_int blk 0 cap l w hH hb hl)
  (λ_ a w=>Tryz.slices_Sort_int_none a 0 w)
def B6v(l:List Int):List Int:=Go.Lib.compact l
theorem C2e(l:List Int):(B6v l).length<=l.length:=by unfold B6v Go.Lib.compact Go.Lib.compactUpTo;rw[List.length_map];have:=List.length_filter_le (Go.Lib.keeps l.toArray) (List.range l.length);rwa[List.length_range]at this
theorem C2f(d:Array Int)(x:Int): ∀m,x∈Go.Lib.compactUpTo d m↔ ∃j,j<m/\d[j]! =x
 |0=>by simp[Go.Lib.compactUpTo]
 |m+1=>by
  rw[Go.Lib.compactUpTo_succ,List.mem_append,C2f d x m];constructor
  ·rintro(⟨j,hj,e⟩ |h)
   ·exact⟨j,by omega,e⟩
   ·by_cases hk:Go.Lib.keeps d m=true
    ·rw[if_pos hk,List.mem_singleton]at h;exact⟨m,by omega,h.symm⟩
    ·rw[if_neg hk]at h;cases h
  ·rintro⟨j,hj,e⟩;rcases Nat.lt_or_eq_of_le (Nat.le_of_lt_succ hj)with h |h
   ·exact .inl ⟨j,h,e⟩
   ·subst h;by_cases hk:Go.Lib.keeps d j=true
    ·right;rw[if_pos hk,List.mem_singleton];exact e.symm
    ·left;simp only[Go.Lib.keeps,decide_eq_true_eq,not_or,ne_eq,Classical.not_not]at hk;exact⟨j-1,by omega,by rw[<-hk.2];exact e⟩
theorem F5k {l:List Int}{x:Int}:x∈B6v l↔x∈l:=by
 unfold B6v Go.Lib.compact;rw[C2f];constructor
 ·rintro⟨j,hj,e⟩;have:l[j]=x:=by simpa[hj]using e
  rw[<-this];exact List.getElem_mem hj
 ·intro h;obtain⟨j,hj,e⟩:=List.getElem_of_mem h;exact⟨j,hj,by simpa[hj]using e⟩
theorem C72(l:List Int)(hl:l.length<=9223372036854775807):cA_ C6m [.sl 1 0 l.length l.length] [(1, .arr 1 (A9 C6 0 l))] (.sl 1 0 (B6v l).length l.length)
  [(1, .arr 1 (A9 C6 0 (B6v l++List.replicate (l.length-(B6v l).length) 0)))]:=by
 refine G55 (by kernel_rfl) l _ (by have:=C2e l;simp;omega) (λa cap=> .slice a (B6v l).length cap) _ (λG w ob i a cap hi hlen hs=> ?_)
  (λblk cap w hH hb hc=>(Tryz.slices_Compact_int blk 0 cap l w hH hl hc).mono ?_) (λe a w=> ?_)
 ·obtain⟨h1,h2,h3⟩:=hs;have hcl:=C2e l;refine .sl i hi (by omega) ⟨_,_,rfl⟩ λ_=>⟨by omega,λhb=> ?_,λb hb=> ?_⟩
  ·have hac:=h2 hb
   have:l.length=0:=by rcases hac with e |⟨a',e⟩ <;> (injection e)
   have e0:(B6v l).length=0:=by omega
   rw[e0];rw[this]at hac;exact hac
  ·obtain⟨o,c,e,h5,h6,h7⟩:=h3 b hb;injection e with e1 e2 e3;subst e1;subst e3;exact⟨o,cap,rfl,by omega,λh=>by rw[(h7 rfl).1];simp,h7⟩
 ·rintro e w' ⟨rfl,q,rfl⟩;exact⟨rfl,q,#[],by rw[grow_empty];rfl⟩
 ·subst e;refine(Tryz.slices_Compact_int_empty a 0 w).mono ?_;rintro e w' ⟨rfl,rfl⟩;exact⟨rfl,rfl⟩
def A8x(a:cN)(b:cN):Int:=let v1:=(J9 a.eT.fU.X b.eT.fU.X);let v2:=(J9 a.ID b.ID);let v3:=(A1p ([v1,v2]));v3
theorem E5q(a:cN)(b:cN):cA_ C8p [.agg a.enc, .agg b.enc] [] (sI (A8x a b)) []:=by
 refine en1 hm A6 Tryz.func467 rfl rfl (st_ ?_);refine A0 (A07 a.eT.fU.X b.eT.fU.X) rfl ?_;generalize hv1:(J9 a.eT.fU.X b.eT.fU.X)=v1;refine st_ ?_;refine A0 (A07 a.ID b.ID) rfl ?_;generalize hv2:(J9 a.ID b.ID)=v2;refine st_ ?_;refine A5i (C05 ([v1,v2]) (by((simp_all;done)))) rfl ?_ ?_
 ·(try simp only[S3,go_sem,go_sem_proc]);all_goals((repeat' (with_reducible apply And.intro)) <;> exact H1 (λ_ _=>rfl) rfl rfl rfl)
 generalize hv3:(A1p ([v1,v2]))=v3;refine st_ ?_;have hd:A8x a b=v3:=by(simp only[A8x,hv1,hv2,hv3,eq_self];done)
 try rw[hd]
theorem C2d(x y:Int):J9 x y=C0h x y:=by unfold J9 A18 C0h;simp
theorem G5o(a b:Int):A1p [a,b]=if a≠0 then a else b:=by unfold A1p;simp only[List.length_cons,List.length_nil,Nat.zero_add,Nat.reduceAdd,J8,A6r];by_cases ha:a=0 <;> by_cases hb:b=0 <;> simp[ha,hb]
theorem G6n(a b:cN):A8x a b=B8m [E21,cN.ID] a b:=by unfold A8x;dsimp only;rw[G5o,C2d,C2d];simp only[B8m,E21];by_cases h:C0h a.ID b.ID=0 <;> simp[h]
def G4m(x:cN):KEl 5:=⟨[x.ID,x.eT.fU.X,x.eT.fU.Y,x.eT.fX.X,x.eT.fX.Y],rfl⟩
def F8d(y:KEl 5):cN:=⟨y.1.getD 0 0,⟨y.1.getD 1 0,y.1.getD 2 0⟩,⟨y.1.getD 3 0,y.1.getD 4 0⟩⟩
theorem F8e: ∀y:KEl 5,kav y=(F8d y).enc
 |⟨[a,b,c,d,e],_⟩=>rfl
def F3u(a b:cN):Int:=B8m [E21,cN.ID] a b
def A71(l:List cN):List cN:=B2m G4m F8d F3u l
theorem C6z(l:List cN):(A71 l).length=l.length:=B8w (B0o _) l
theorem C10(id:Nat)(l:List cN)(hl:l.length<4611686018427387904):
  cA_ C1p [.sl id 0 l.length l.length, .fn (.func C8p) [] []] [(id, .arr 5 (A9 cN.enc dF_ l))] (.tup []) [(id, .arr 5 (A9 cN.enc dF_ (A71 l)))]:=
 E3n (toK:=G4m) (fromK:=F8d) (cf:=F3u) Tryz.laySF_Entry (by decide) (by kernel_rfl) (λw=>Z0 (by kernel_rfl)) (λw=>T8 (by kernel_rfl)) dF_ rfl (λx=>rfl) F8e (B0o _) (λargs w=>A76 (by kernel_rfl) args)
  (λx y=>by have:=E5q x y;rwa[G6n]at this) id l hl
def D2f {α:Type}(f:α->Int)(m:List α):List (Int×AV):=m.map λx=>(f x,sB true)
theorem D8l {α:Type}(f:α->Int)(k:Int): ∀m:List α,B8n (D2f f m) k=cond (m.any λx=>k==f x) (some (sB true)) none
 | []=>rfl
 |x::m=>by
  have ih:=D8l f k m;simp only[D2f,List.map_cons,B8n,List.any_cons]at ih⊢;cases h:k==f x
  ·simpa using ih
  ·simp
theorem D8m {α:Type}(f:α->Int)(x:α): ∀m:List α,(m.any λy=>f x==f y)=false->B4q (D2f f m) (f x) (sB true)=D2f f (m++ [x])
 | [],_=>rfl
 |y::m,h=>by simp only[List.any_cons,Bool.or_eq_false_iff]at h;have ih:=D8m f x m h.2;simp only[D2f,List.map_cons,List.cons_append,B4q,h.1]at ih⊢;rw[if_neg (by simp),ih]
theorem D4r:B75 (.bool false)=sB false:=rfl
def C4g(s:List cN)(x:cN):List cN:=if A4o x.eT=true/\(s.any λy=>x.ID==y.ID)=false then s++ [x]else s
def A46(l:List cN):List cN:=l.foldl C4g []
theorem F9t(s:List cN)(x:cN):(C4g s x).length<=s.length+1:=by unfold C4g;split <;> simp
theorem E4l: ∀(l s:List cN),(l.foldl C4g s).length<=s.length+l.length
 | [],s=>Nat.le_refl _
 |x::l,s=>by have:=E4l l (C4g s x);have:=F9t s x;simp only[List.foldl_cons,List.length_cons];omega
theorem D88(l:List cN):(A46 l).length<=l.length:=by have:=E4l l [];simpa[A46]using this
theorem E84: ∀(l s:List cN) (x:cN),x∈l.foldl C4g s->x∈s\/x∈l
 | [],s,x,h=> .inl h
 |y::l,s,x,h=>by
  rcases E84 l (C4g s y) x h with h1 |h1
  ·unfold C4g at h1;split at h1
   ·rw[List.mem_append,List.mem_singleton]at h1;rcases h1 with h1 |rfl
    ·exact .inl h1
    ·exact .inr (List.mem_cons_self ..)
   ·exact .inl h1
  ·exact .inr (List.mem_cons_of_mem _ h1)
theorem F4r(l:List cN)(hl:l.length<=1048576):cA_ F2y [A4 5 cN.enc dF_ l] [] (A4 5 cN.enc dF_ (A71 (A46 l))) []:=by
 refine en1 hm A6 Tryz.func367 rfl rfl (st_ ?_);refine B1 hm (ι:= {i:Nat // i<=l.length}) (λi=> [(3,mdA i.1, .sl 1 0 (A46 (l.take i.1)).length (A46 (l.take i.1)).length),(4, .cA, .mp 2),(8, .cA,A4 5 cN.enc dF_ l),(9, .cA,sI l.length),(10, .cA,sI (i.1:Nat))]) (λi=> [(1, .arr 5 (A9 cN.enc dF_ (A46 (l.take i.1)))),(2, .map .i64 (D2f cN.ID (A46 (l.take i.1))))]) (λi=>l.length-i.1) ⟨0,Nat.zero_le _⟩ ?_ ?_
 ·simp only[List.take_zero,show A46 []= []from rfl];refine B0 [(2,128)] [1] (st_ ?_);exact eE_
 ·rintro⟨i,hi⟩;dsimp only;have hn:i<l.length->A46 (l.take (i+1))=C4g (A46 (l.take i)) (l.getD i dF_):=λh=>by unfold A46;rw[L5 dF_ h,List.foldl_append];rfl
  have hfin:l.length<=i->A46 (l.take i)=A46 l:=λh=>by rw[show i=l.length by omega,List.take_length]
  have hlen:=D88 (l.take i);rw[List.length_take]at hlen;generalize A46 (l.take i)=v at hn hfin hlen⊢;refine st_ ?_;by_cases hlt:i<l.length;rotate_left
  ·rw[if_neg (by omega)];refine M1 (C10 1 v (by omega)) (by simp[okO]) (by simp[okO]) (by simp) (by simp[upd]) (by simp) ?_ rfl ?_
   ·intro a ha j hj;obtain⟨k,hk⟩:=List.getElem?_of_mem ha;have:=P6 hk j hj;simp[F0,AV.ids]at this;subst this;rfl
   refine st_ ?_;rw[<-hfin (by omega)];rw[C6z];exact⟨rfl,D0 _⟩
  rw[if_pos (by omega)];refine⟨bE_,?_⟩;replace hn:=hn hlt;refine A0 (B4y (l.getD i dF_).eT) rfl ?_;unfold C4g at hn;generalize A4o (l.getD i dF_).eT=ok at hn⊢;have hg:=D8l cN.ID (l.getD i dF_).ID v;cases hm:v.any λy=>(l.getD i dF_).ID==y.ID with
  |true=>
   rw[hm]at hg;simp only[cond_true]at hg;rw[hm,if_neg (by simp)]at hn;cases ok
   all_goals
    simp only[go_sem,go_sem_proc,hg,Option.getD_some,Bool.not_true];refine A8 ⟨i+1,by omega⟩ (by show l.length-(i+1)<l.length-i;omega) ?_;simp only[hn];exact B0 [] [] se_
  |false=>
   rw[hm]at hg;simp only[cond_false]at hg;rw[hm]at hn;cases ok
   ·rw[if_neg (by simp)]at hn;simp only[go_sem,go_sem_proc,hg,Option.getD_none,D4r,Bool.not_false];refine A8 ⟨i+1,by omega⟩ (by show l.length-(i+1)<l.length-i;omega) ?_;simp only[hn];refine B0 [] [] (st_ ?_);exact eE_
   ·rw[if_pos (by simp)]at hn;simp only[go_sem,go_sem_proc,hg,Option.getD_none,D4r,Bool.not_false];refine⟨bE_,?_⟩;refine A8 ⟨i+1,by omega⟩ (by show l.length-(i+1)<l.length-i;omega) ?_;simp only[hn,<-D8m cN.ID _ v hm];refine B0 [] [] (st_ ?_);exact eE_
end Go.Abs
end
