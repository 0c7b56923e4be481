/- A part of the proof: contracts of functions that the statement reaches. -/
import Derived.Test.YthpkalnjbhnfpaaGreatMH
import Derived.Shelf.Sort.Plain
import Derived.Shelf.Slices.Turned
import Derived.Ground.Names2Prog
import Derived.Shelf.Slices.CompactI
import Derived.Shelf.Slices.In.SortNone
import Derived.Ground.SlsfProg
import Derived.Shelf.SlSortCmp.WholeK
import Derived.Shelf.SlSortCmp.NoneTotal
import Derived.Test.YthpkalnjbhnfpaaGreatProg
import Derived.Shelf.SlGeneric
set_option linter.unusedSimpArgs false
set_option linter.unusedVariables false
set_option linter.unnecessarySimpa false
set_option maxRecDepth 100000
set_option maxHeartbeats 2000000
section
namespace Go.Abs
open Go.Proofs
open Api
structure L9 where
 body:Int
 fixture:Int
 deriving DecidableEq,Inhabited
def L9.enc(x:L9):List AV:=[.sc (.int .i64 x.body), .sc (.int .i64 x.fixture)]
def L9.zero:List AV:= [.sc (.int .i64 0), .sc (.int .i64 0)]
attribute [go_sem] L9.enc L9.zero
@[go_sem] theorem C94(x:L9):L9.mk x.body x.fixture=x:=rfl
structure A23 where
 ID:Int
 Bounds:AABB
 deriving DecidableEq,Inhabited
def A23.enc(x:A23):List AV:=[.sc (.int .i64 x.ID), .sc (.int .i64 x.Bounds.Min.X), .sc (.int .i64 x.Bounds.Min.Y), .sc (.int .i64 x.Bounds.Max.X), .sc (.int .i64 x.Bounds.Max.Y)]
def A23.zero:List AV:= [.sc (.int .i64 0), .sc (.int .i64 0), .sc (.int .i64 0), .sc (.int .i64 0), .sc (.int .i64 0)]
attribute [go_sem] A23.enc A23.zero
@[go_sem] theorem E5b(x:A23):A23.mk x.ID x.Bounds=x:=rfl
structure X7 where
 Body:Int
 Fixture:Int
 Bounds:AABB
 deriving DecidableEq,Inhabited
def X7.enc(x:X7):List AV:=[.sc (.int .i64 x.Body), .sc (.int .i64 x.Fixture), .sc (.int .i64 x.Bounds.Min.X), .sc (.int .i64 x.Bounds.Min.Y), .sc (.int .i64 x.Bounds.Max.X), .sc (.int .i64 x.Bounds.Max.Y)]
def X7.zero:List AV:= [.sc (.int .i64 0), .sc (.int .i64 0), .sc (.int .i64 0), .sc (.int .i64 0), .sc (.int .i64 0), .sc (.int .i64 0)]
attribute [go_sem] X7.enc X7.zero
@[go_sem] theorem D6w(x:X7):X7.mk x.Body x.Fixture x.Bounds=x:=rfl
structure Y0 where
 bodies:List Body
 joints:List Joint
 refs:List L9
 entries:List A23
 deriving DecidableEq,Inhabited
def Y0.enc(x:Y0):List AV:=[B4 20 Body.enc default x.bodies,B4 24 Joint.enc default x.joints,B4 2 L9.enc default x.refs,B4 5 A23.enc default x.entries]
def Y0.zero:List AV:= [.sc (.slice none 0 0), .sc (.slice none 0 0), .sc (.slice none 0 0), .sc (.slice none 0 0)]
attribute [go_sem] Y0.enc Y0.zero
@[go_sem] theorem D6i(x:Y0):Y0.mk x.bodies x.joints x.refs x.entries=x:=rfl
def A0r(n:Int):Bool:=((decide ((-536870911)≤n))&&(decide (n≤536870911)))
theorem B72(n:Int):A5 Tryz.prog B8i [.sc (.int .i64 n)] [] (.sc (.bool (A0r n))) []:=by refine en1 hm A1 Tryz.func143 rfl rfl ?_;have:=A0r.eq_1 n;exact D3
def A3f(b:Body)(x:Api.Input):Int:=if(x.Kind==4)=true then(let v1:=(Q5 (⟨x.Vec,x.Value⟩:Transform));if v1=false then(6)else(0))else(if(x.Kind==5)=true then(if(b.Kind==1)=true then(10)else(0))else(if(b.Kind != 3)=true then(10)else(0)))
theorem B0w(b:Body)(x:Api.Input):A5 Tryz.prog C1y [.agg b.enc, .agg x.enc] [] (.sc (.int .i64 (A3f b x))) []:=by
 refine en1 hm A1 Tryz.func159 rfl rfl ?_;have:=fun x1 x2 x3=>cx_ (A6i ⟨⟨x1,x2⟩,x3⟩)
 have:=A6i
 have:=A3f.eq_1 b x;exact A2i
def A2t(a0:Int)(a1:Int)(a2:Int):Int:=if(a0==a2)=true then(a1)else(a0)
theorem B7n(a0:Int)(a1:Int)(a2:Int):A5 Tryz.prog C9y [.sc (.int .i64 a0), .sc (.int .i64 a1), .sc (.int .i64 a2)] [] (.sc (.int .i64 (A2t a0 a1 a2))) []:=by refine en1 hm A1 Tryz.func149 rfl rfl ?_;have:=A2t.eq_1 a0 a1 a2;exact D3
def A27(f:Fixture)(m:Int):Bool:=((!f.Sensor)&&((IntKind.i64.wrap (((BitVec.ofInt 64 f.Category &&& BitVec.ofInt 64 m).toNat:Nat):Int)) != 0))
theorem C00(f:Fixture)(m:Int):A5 Tryz.prog B94 [.agg f.enc, .sc (.int .i64 m)] [] (.sc (.bool (A27 f m))) []:=by refine en1 hm A1 Tryz.func229 rfl rfl ?_;have:=A27.eq_1 f m;exact D3
end Go.Abs
end
section
namespace Go.Abs
open Go.Proofs
open Api
def zl_Joint:List AV:=([(.int .i64 0),(.int .i64 0),(.int .i64 0),(.int .i64 0),(.int .i64 0),(.int .i64 0),(.int .i64 0),(.int .i64 0),(.int .i64 0),(.int .i64 0),(.int .i64 0),(.bool false),(.int .i64 0),(.int .i64 0),(.bool false),(.int .i64 0),(.int .i64 0),(.int .i64 0),(.int .i64 0),(.bool false),(.int .i64 0),(.int .i64 0),(.int .i64 0),(.int .i64 0)]:List Value).map .sc
theorem B5m(s:Sq)(i:Nat)(hi:i<s.n)(hn:s.n≤1048576):A5 Tryz.prog B47 [.sl 1 0 s.n s.n, .sc (.int .i64 i), .sc (.int .i64 (i+1:Nat))] [(1, .arr 24 s)] (.sl 1 0 (s.n-1) s.n)
  [(1, .arr 24 ((s.over i ⟨s.n-(i+1),fun k=>s.g (i+1+k)⟩).over (s.n-1) ⟨1,fun _=>zl_Joint⟩))]:=by
 obtain⟨zl,hzl⟩: ∃zl,zl=zl_Joint:=⟨_,rfl⟩;rw[←hzl];have e1:((i:Int)-0).toNat=i:=by omega
 have e2:((s.n:Int)-((i+1:Nat):Int)).toNat=s.n-(i+1):=by omega
 have e3:i+(s.n-(i+1))=s.n-1:=by omega
 have e4:((s.n:Int)-((s.n-1:Nat):Int)).toNat=1:=by omega
 refine B2z hm A1 Tryz.func157 rfl rfl ?_;refine L6 [(0, .share, .sl 1 0 s.n s.n),(1, .share, .sc (.int .i64 i)),(2, .share, .sc (.int .i64 (i+1:Nat))),(6, .share, .sc (.slice none 0 0))] [(1, .arr 24 s)] (O4 hm ?_) ?_
 ·simp only[go_sem,go_sem_proc];refine B3 [] [] (by simp[go_sem]) (by simp[A9,go_sem]) (by simp[go_sem,A9]) ?_;simp only[go_sem,go_sem_proc]
 refine L6 [(0, .share, .sl 1 0 s.n s.n),(1, .share, .sc (.int .i64 i)),(2, .share, .sc (.int .i64 (i+1:Nat))),(6, .share, .sc (.slice none 0 0))] [(1, .arr 24 s)] (B6i 5 ?_) ?_
 ·simp only[go_sem,go_sem_proc];refine And.intro (by(repeat' apply And.intro) <;> first |trivial |omega) ?_;refine B3 [] [] (by simp[go_sem]) (by simp[A9,go_sem]) (by simp[go_sem,A9]) ?_;simp only[go_sem,go_sem_proc]
 refine L6 [(0, .share, .sl 1 0 s.n s.n),(1, .share, .sc (.int .i64 i)),(2, .share, .sc (.int .i64 (i+1:Nat))),(6, .share, .sc (.slice none 0 0))] [(1, .arr 24 s)] (O4 hm ?_) ?_
 ·simp only[go_sem,go_sem_proc];rw[if_neg (by simp;omega)];refine B3 [] [] (by simp[go_sem]) (by simp[A9,go_sem]) (by simp[go_sem,A9]) ?_;simp only[go_sem,go_sem_proc]
 refine L6 [(0, .share, .sl 1 0 s.n s.n),(1, .share, .sc (.int .i64 i)),(2, .share, .sc (.int .i64 (i+1:Nat))),(6, .share, .sc (.slice none 0 0)),(7, .share, .sc (.int .i64 s.n))] [(1, .arr 24 s)] (O4 hm ?_) ?_
 ·simp only[go_sem,go_sem_proc];refine B3 [] [] (by simp[go_sem]) (by simp[A9,go_sem]) (by simp[go_sem,A9]) ?_;simp only[go_sem,go_sem_proc]
 refine L6 [(0, .share, .sl 1 0 (s.n-1) s.n),(1, .share, .sc (.int .i64 i)),(2, .share, .sc (.int .i64 (i+1:Nat))),(6, .share, .sc (.slice none 0 0)),(7, .share, .sc (.int .i64 s.n))] [(1, .arr 24 (s.over i ⟨s.n-(i+1),fun k=>s.g (i+1+k)⟩))] (D0s 6 hm ?_) ?_
 ·simp only[go_sem,go_sem_proc];rw[e1,e2,e3];refine⟨⟨by omega,by omega,by omega⟩,⟨by omega,by omega,by omega⟩,⟨by omega,by omega,by unfold maxLen;omega⟩,?_⟩;refine B3 [] [] (by simp[go_sem]) (by simp[A9,go_sem]) (by simp[go_sem,A9]) ?_;simp only[go_sem,go_sem_proc]
 refine L6 [(0, .share, .sl 1 0 (s.n-1) s.n),(1, .share, .sc (.int .i64 i)),(2, .share, .sc (.int .i64 (i+1:Nat))),(6, .share, .sc (.slice none 0 0))] [(1, .arr 24 ((s.over i ⟨s.n-(i+1),fun k=>s.g (i+1+k)⟩).over (s.n-1) ⟨1,fun _=>zl⟩))] (B6i 4 ?_) ?_
 ·simp only[go_sem,go_sem_proc];rw[e4];refine⟨⟨rfl,by omega,by omega,by omega⟩,rfl,?_⟩;refine B3 [] [] (by simp[go_sem]) (by simp[A9,go_sem]) (by simp[go_sem,A9]) ?_;simp only[go_sem,go_sem_proc];subst hzl;exact A2a
 refine O4 hm ?_;simp only[go_sem,go_sem_proc];refine E3 [.share] [] [] rfl rfl (by simp[go_sem]) (by simp[A9,go_sem]) (by simp[go_sem,A9]) ?_;simp only[go_sem,go_sem_proc]
def zl_Body:List AV:=([(.int .i64 0),(.int .i64 0),(.int .i64 0),(.int .i64 0),(.int .i64 0),(.int .i64 0),(.int .i64 0),(.int .i64 0),(.int .i64 0),(.int .i64 0),(.int .i64 0),(.int .i64 0),(.int .i64 0),(.int .i64 0),(.bool false),(.bool false),(.bool false),(.bool false),(.int .i64 0),(.slice none 0 0)]:List Value).map .sc
theorem B6e(s:Sq)(i:Nat)(hi:i<s.n)(hn:s.n≤1048576):A5 Tryz.prog B7b [.sl 1 0 s.n s.n, .sc (.int .i64 i), .sc (.int .i64 (i+1:Nat))] [(1, .arr 20 s)] (.sl 1 0 (s.n-1) s.n)
  [(1, .arr 20 ((s.over i ⟨s.n-(i+1),fun k=>s.g (i+1+k)⟩).over (s.n-1) ⟨1,fun _=>zl_Body⟩))]:=by
 obtain⟨zl,hzl⟩: ∃zl,zl=zl_Body:=⟨_,rfl⟩;rw[←hzl];have e1:((i:Int)-0).toNat=i:=by omega
 have e2:((s.n:Int)-((i+1:Nat):Int)).toNat=s.n-(i+1):=by omega
 have e3:i+(s.n-(i+1))=s.n-1:=by omega
 have e4:((s.n:Int)-((s.n-1:Nat):Int)).toNat=1:=by omega
 refine B2z hm A1 Tryz.func150 rfl rfl ?_;refine L6 [(0, .share, .sl 1 0 s.n s.n),(1, .share, .sc (.int .i64 i)),(2, .share, .sc (.int .i64 (i+1:Nat))),(6, .share, .sc (.slice none 0 0))] [(1, .arr 20 s)] (O4 hm ?_) ?_
 ·simp only[go_sem,go_sem_proc];refine B3 [] [] (by simp[go_sem]) (by simp[A9,go_sem]) (by simp[go_sem,A9]) ?_;simp only[go_sem,go_sem_proc]
 refine L6 [(0, .share, .sl 1 0 s.n s.n),(1, .share, .sc (.int .i64 i)),(2, .share, .sc (.int .i64 (i+1:Nat))),(6, .share, .sc (.slice none 0 0))] [(1, .arr 20 s)] (B6i 5 ?_) ?_
 ·simp only[go_sem,go_sem_proc];refine And.intro (by(repeat' apply And.intro) <;> first |trivial |omega) ?_;refine B3 [] [] (by simp[go_sem]) (by simp[A9,go_sem]) (by simp[go_sem,A9]) ?_;simp only[go_sem,go_sem_proc]
 refine L6 [(0, .share, .sl 1 0 s.n s.n),(1, .share, .sc (.int .i64 i)),(2, .share, .sc (.int .i64 (i+1:Nat))),(6, .share, .sc (.slice none 0 0))] [(1, .arr 20 s)] (O4 hm ?_) ?_
 ·simp only[go_sem,go_sem_proc];rw[if_neg (by simp;omega)];refine B3 [] [] (by simp[go_sem]) (by simp[A9,go_sem]) (by simp[go_sem,A9]) ?_;simp only[go_sem,go_sem_proc]
 refine L6 [(0, .share, .sl 1 0 s.n s.n),(1, .share, .sc (.int .i64 i)),(2, .share, .sc (.int .i64 (i+1:Nat))),(6, .share, .sc (.slice none 0 0)),(7, .share, .sc (.int .i64 s.n))] [(1, .arr 20 s)] (O4 hm ?_) ?_
 ·simp only[go_sem,go_sem_proc];refine B3 [] [] (by simp[go_sem]) (by simp[A9,go_sem]) (by simp[go_sem,A9]) ?_;simp only[go_sem,go_sem_proc]
 refine L6 [(0, .share, .sl 1 0 (s.n-1) s.n),(1, .share, .sc (.int .i64 i)),(2, .share, .sc (.int .i64 (i+1:Nat))),(6, .share, .sc (.slice none 0 0)),(7, .share, .sc (.int .i64 s.n))] [(1, .arr 20 (s.over i ⟨s.n-(i+1),fun k=>s.g (i+1+k)⟩))] (D0s 6 hm ?_) ?_
 ·simp only[go_sem,go_sem_proc];rw[e1,e2,e3];refine⟨⟨by omega,by omega,by omega⟩,⟨by omega,by omega,by omega⟩,⟨by omega,by omega,by unfold maxLen;omega⟩,?_⟩;refine B3 [] [] (by simp[go_sem]) (by simp[A9,go_sem]) (by simp[go_sem,A9]) ?_;simp only[go_sem,go_sem_proc]
 refine L6 [(0, .share, .sl 1 0 (s.n-1) s.n),(1, .share, .sc (.int .i64 i)),(2, .share, .sc (.int .i64 (i+1:Nat))),(6, .share, .sc (.slice none 0 0))] [(1, .arr 20 ((s.over i ⟨s.n-(i+1),fun k=>s.g (i+1+k)⟩).over (s.n-1) ⟨1,fun _=>zl⟩))] (B6i 4 ?_) ?_
 ·simp only[go_sem,go_sem_proc];rw[e4];refine⟨⟨rfl,by omega,by omega,by omega⟩,rfl,?_⟩;refine B3 [] [] (by simp[go_sem]) (by simp[A9,go_sem]) (by simp[go_sem,A9]) ?_;simp only[go_sem,go_sem_proc];subst hzl;exact A2a
 refine O4 hm ?_;simp only[go_sem,go_sem_proc];refine E3 [.share] [] [] rfl rfl (by simp[go_sem]) (by simp[A9,go_sem]) (by simp[go_sem,A9]) ?_;simp only[go_sem,go_sem_proc]
end Go.Abs
end
section
namespace Go.Abs
open Go.Proofs
open Api
theorem A8g {O:List (Nat×A8)}(hn:(O.map (·.1)).Nodup){i:Nat}:(ofL O i).isSome↔i∈O.map (·.1):=by
 constructor
 ·intro h;obtain⟨o,ho⟩:=A54 h;exact List.mem_map_of_mem (f:=(·.1)) ho
 ·intro h;obtain⟨p,hp,rfl⟩:=List.mem_map.1 h;rw[B08 hn hp];rfl
theorem A9k {P:Program}{m:Nat→Option A8}{f:FuncId}{avs:List AV}{b:Bool}{Q:ContR}{O O':List (Nat×A8)}{r:AV}(hc:A5 P f avs O r O')(h:okO O)(h':okO O')(hk: ∀i∈O.map (·.1),i∈O'.map (·.1))(hm: ∀p∈O,m p.1=some p.2)
  (hf: ∀i∈O'.map (·.1),i∉O.map (·.1)→m i=none)(ha: ∀a∈avs,∀i∈a.ids,(ofL O i).isSome)(hb:b=true)(hK: @Ri Q b ⟨some r,O'⟩): @A4w P m f avs b Q:=by
 refine⟨⟨some r,O'⟩,fun _=> ?_,fun _=>hb,hK⟩;have:=O0.mk (P:=P) (m:=m) (avs.map fun _=>true) avs O r O' id [] false hc (A89 ha)
  (fun i o hi=>by rw[B3r];exact hm _ (A00 h.1 hi))
  (fun i cs hi j hj=>h.2 _ (A00 h.1 hi) cs rfl j hj) (fun i hi=>(A8g h'.1).2 (hk i ((A8g h.1).1 hi)))
  (fun i hi=>by
    by_cases ho:i∈O.map (·.1)
    ·exact .inl ((A8g h.1).2 ho)
    ·exact .inr (hf i ((A8g h'.1).1 hi) ho)) (by simpa using h'.1) (fun e=>by cases e)
 simpa[AV.ren_id,C1b]using this
end Go.Abs
end
section
namespace Go.Abs
open Go.Proofs
open Api
def A4s {α:Type}(d:α)(p:α→Bool)(j:Nat)(s:Nat×List α):Nat×List α:=if p (s.2.getD j d)then s else(s.1+1,s.2.set s.1 (s.2.getD j d))
def dfR {α:Type}(d:α)(p:α→Bool)(l:List α):Nat→Nat×List α
 |0=>(0,l)
 |j+1=>A4s d p j (dfR d p l j)
theorem A8x {α:Type}{d:α}{p:α→Bool}{l:List α}: ∀j,j≤l.length→(dfR d p l j).1≤j∧(dfR d p l j).2.length=l.length∧(∀k,j≤k→(dfR d p l j).2.getD k d=l.getD k d)∧(dfR d p l j).2.take (dfR d p l j).1=(l.take j).filter fun x=> !p x
 |0,_=>⟨Nat.le_refl _,rfl,fun _ _=>rfl,by simp[dfR]⟩
 |j+1,hj=>by
  obtain⟨h1,h2,h3,h4⟩:=A8x (d:=d) (p:=p) (l:=l) j (by omega);have hg:=h3 j (Nat.le_refl _)
  have ht:l.take (j+1)=l.take j++ [l.getD j d]:=by rw[List.take_add_one];congr 1;simp[List.getD,List.getElem?_eq_getElem (show j<l.length by omega)]
  unfold dfR A4s;rw[hg];by_cases hp:p (l.getD j d)=true
  ·rw[if_pos hp];refine⟨by omega,h2,fun k hk=>h3 k (by omega),?_⟩;rw[ht,List.filter_append,h4,List.filter_cons,List.filter_nil,hp];simp
  ·rw[if_neg hp];refine⟨by show(dfR d p l j).1+1≤j+1;omega,by simpa using h2,fun k hk=> ?_,?_⟩
   ·show((dfR d p l j).2.set (dfR d p l j).1 (l.getD j d)).getD k d=_;rw[←h3 k (by omega)];simp only[List.getD,List.getElem?_set];rw[if_neg (by omega)]
   ·show((dfR d p l j).2.set (dfR d p l j).1 (l.getD j d)).take ((dfR d p l j).1+1)=_;rw[ht,List.filter_append,←h4,List.take_add_one,List.take_set_of_le (Nat.le_refl _)];have hp':p (l.getD j d)=false:=by simpa using hp
    rw[List.filter_cons,List.filter_nil,hp'];simp[List.getElem?_set,h2,show(dfR d p l j).1<l.length by omega]
theorem A5t {α:Type}{d:α}{p:α→Bool}{l:List α}: ∀j,j≤l.length→(∀k,k<j→p (l.getD k d)=false)→dfR d p l j=(j,l)
 |0,_,_=>rfl
 |j+1,hj,h=>by
  rw[dfR,A5t j (by omega) fun k hk=>h k (by omega)];unfold A4s;simp only[h j (by omega),Bool.false_eq_true,if_false,Prod.mk.injEq,true_and];have:l.getD j d=l[j]:=by simp[List.getD,List.getElem?_eq_getElem (show j<l.length by omega)]
  rw[this,List.set_getElem_self]
def dfQ {α:Type}(enc:α→List AV)(d:α)(p:α→Bool)(l:List α)(zl:List AV):Sq:=(D2 enc d (dfR d p l l.length).2).over (dfR d p l l.length).1 ⟨l.length-(dfR d p l l.length).1,fun _=>zl⟩
theorem E22 {α:Type}{d:α}{p:α→Bool}{l:List α}:(dfR d p l l.length).1=(l.filter fun x=> !p x).length:=by obtain⟨h1,h2,h3,h4⟩:=A8x (d:=d) (p:=p) (l:=l) l.length (Nat.le_refl _);rw[List.take_length]at h4;rw[←h4,List.length_take,h2];omega
theorem D1q {α:Type}{enc:α→List AV}{d:α}{p:α→Bool}{l:List α}{zl:List AV}{z:Nat}{g:Nat→List AV}{m:Nat}(hm:m=(dfR d p l l.length).1)(hg: ∀k,g k=(dfQ enc d p l zl).g k):J5 (.dsl z m g) (B4 z enc d (l.filter fun x=> !p x)):=by
 subst hm;unfold B4;rw[A1c];refine⟨rfl,E22,fun k hk=> ?_⟩;rw[hg];obtain⟨h1,h2,h3,h4⟩:=A8x (d:=d) (p:=p) (l:=l) l.length (Nat.le_refl _);rw[List.take_length]at h4;have e:(dfQ enc d p l zl).g k=enc ((dfR d p l l.length).2.getD k d):=by show(if _ then _ else _:List AV)=_;rw[if_neg (by omega)];rfl
 rw[e,O6,←h4];have:((dfR d p l l.length).2.take (dfR d p l l.length).1).getD k d=(dfR d p l l.length).2.getD k d:=by simp only[List.getD,List.getElem?_take];rw[if_pos hk]
 rw[this];exact Q6 _
theorem A19 {P:Program}{m:Nat→Option A8}{f:FuncId}{avs:List AV}{b:Bool}{Q:ContR}{r:AV}(hc:A5 P f avs [] r [])(ha:C9 avs= [])(hb:b=true)(hK: @Ri Q b ⟨some r,[]⟩): @A4w P m f avs b Q:=
 B1k hc ⟨List.nodup_nil,fun _ h=>by cases h⟩ (fun _ h=>by cases h) (fun a hav i hi=>by obtain⟨k,hk⟩:=List.getElem?_of_mem hav;have:=K8 hk i hi;rw[ha]at this;cases this) hb hK
theorem A0g: ∀(a b:List AV),C9 (a++b)=C9 a++C9 b
 | [],b=>rfl
 |x::a,b=>by rw[List.cons_append,C9,C9,A0g a b,List.append_assoc]
theorem B61 {α:Type}{d:α}{p:α→Bool}{l:List α}:(A2p d p l= -1∧ ∀j,j<l.length→p (l.getD j d)=false)∨ ∃i:Nat,i<l.length∧A2p d p l=i∧p (l.getD i d)=true∧ ∀j,j<i→p (l.getD j d)=false:=by
 by_cases h: ∀j,j<l.length→p (l.getD j d)=false
 ·exact .inl ⟨A0o h,h⟩
 ·right;have: ∃i,i<l.length∧p (l.getD i d)=true∧ ∀j,j<i→p (l.getD j d)=false:=by
   have hex: ∃i,i<l.length∧p (l.getD i d)=true:=by
    apply Classical.byContradiction;intro hn;refine h fun j hj=> ?_;cases hp:p (l.getD j d)with
    |false=>rfl
    |true=>exact absurd ⟨j,hj,hp⟩ hn
   obtain⟨i,hi,hp⟩:=hex;induction i using Nat.strongRecOn with
   |ind i ih=>
    by_cases hs: ∀j,j<i→p (l.getD j d)=false
    ·exact⟨i,hi,hp,hs⟩
    ·have: ∃j,j<i∧p (l.getD j d)=true:=by
      apply Classical.byContradiction;intro hn;refine hs fun j hj=> ?_;cases hpj:p (l.getD j d)with
      |false=>rfl
      |true=>exact absurd ⟨j,hj,hpj⟩ hn
     obtain⟨j,hj,hpj⟩:=this;exact ih j hj (by omega) hpj
  obtain⟨i,hi,hp,hs⟩:=this;exact⟨i,hi,A3z hi hs hp,hp,hs⟩
theorem C3p {α:Type}{enc:α→List AV}{d:α}{p:α→Bool}{l:List α}{zl:List AV}(h: ∀j,j<l.length→p (l.getD j d)=false):dfQ enc d p l zl=D2 enc d l:=by unfold dfQ;rw[A5t l.length (Nat.le_refl _) h];unfold Sq.over D2;congr 1;funext k;rw[if_neg (by simp only;omega)]
def D4g:List AV:=([(.int .i64 0),(.int .i64 0),(.int .i64 0),(.int .i64 0)]:List Value).map .sc
theorem A8f(l:List B2)(f:FuncId)(first cap:List AV)(p:B2→Bool)(hl:l.length≤4194304)(h1:C9 first= [])(h2:C9 cap= [])
  (hp: ∀x∈l,A5 Tryz.prog f (first++ [.agg x.enc]++cap) [] (.sc (.bool (p x))) []):
  A5 Tryz.prog A4u [.sl 1 0 l.length l.length, .fn (.func f) first cap] [(1, .arr 4 (D2 B2.enc default l))] (.sc (.int .i64 (A2p default p l))) [(1, .arr 4 (D2 B2.enc default l))]:=by
 refine B2z hm A1 Tryz.func226 rfl rfl ?_;refine O4 hm ?_;simp only[go_sem,go_sem_proc];refine C6 hm (ι:= {i:Nat // i≤l.length∧ ∀j,j<i→p (l.getD j default)=false}) (fun i=> [(0, .share, .sl 1 0 l.length l.length),(1, .share, .fn (.func f) first cap),(7, .share, .sc (.int .i64 l.length)),(8, .share, .sc (.int .i64 i.1))])
  (fun i=> [(1, .arr 4 (D2 B2.enc default l))]) (fun i=>l.length-i.1) ⟨0,by omega,fun j hj=>by omega⟩ ?_ ?_
 ·refine B3 [] [] (by simp[go_sem]) (by simp[A9,go_sem]) (by simp[go_sem,A9]) ?_;simp only[go_sem,go_sem_proc];exact⟨(AV.ren_id (.fn (.func f) first cap)).symm,fun i hi=>by rw[h1,h2]at hi;cases hi⟩
 ·rintro⟨i,hi,hs⟩;simp only[go_sem,go_sem_proc];split
  ·rename_i hlt;have hlt:i<l.length:=by omega
   refine⟨⟨by omega,by omega⟩,?_⟩;have hx:=hp (l.getD i default) (D6 default hlt);rw[List.append_assoc]at hx;refine A19 hx (by simp[A0g,h1,h2,C9,AV.ids]) rfl ?_;simp only[go_sem,go_sem_proc];cases hpx:p (l.getD i default)with
   |true=>rw[if_pos rfl];refine E3 [.share] [] [] rfl rfl (by simp[go_sem]) (by simp[A9,go_sem]) (by simp[go_sem,A9]) ?_;simp only[go_sem,go_sem_proc];exact(A3z hlt hs hpx).symm
   |false=>rw[if_neg (by simp)];refine B8 ⟨i+1,by omega,fun j hj=>by rcases Nat.lt_succ_iff_lt_or_eq.1 hj with h |rfl;exact hs j h;exact hpx⟩ (by show l.length-(i+1)<l.length-i;omega) ?_;refine B3 [] [] (by simp[go_sem]) (by simp[A9,go_sem]) (by simp[go_sem,A9]) ?_;simp only[go_sem,go_sem_proc];exact⟨(AV.ren_id (.fn (.func f) first cap)).symm,(fun i hi=>by rw[h1,h2]at hi;cases hi),(by rw[IntKind.wrap_i64];omega)⟩
  ·rename_i hge;refine E3 [.share] [] [] rfl rfl (by simp[go_sem]) (by simp[A9,go_sem]) (by simp[go_sem,A9]) ?_;simp only[go_sem,go_sem_proc];exact(A0o fun j hj=>hs j (by omega)).symm
theorem A95(l:List B2)(f:FuncId)(first cap:List AV)(p:B2→Bool)(hl:l.length≤4194304)(h1:C9 first= [])(h2:C9 cap= [])
  (hp: ∀x∈l,A5 Tryz.prog f (first++ [.agg x.enc]++cap) [] (.sc (.bool (p x))) []):
  A5 Tryz.prog A94 [.sl 1 0 l.length l.length, .fn (.func f) first cap] [(1, .arr 4 (D2 B2.enc default l))] (.sl 1 0 (dfR default p l l.length).1 l.length) [(1, .arr 4 (dfQ B2.enc default p l D4g))]:=by
 refine B2z hm A1 Tryz.func155 rfl rfl ?_;refine O4 hm ?_;simp only[go_sem,go_sem_proc];refine B1k (A8f l f first cap p hl h1 h2 hp) (by simp[okO]) (by simp[upd]) ?_ rfl ?_
 ·intro a ha i hi;simp only[List.mem_cons,List.not_mem_nil,or_false]at ha;rcases ha with rfl |rfl
  ·simp only[AV.ids,List.mem_singleton]at hi;subst hi;rfl
  ·simp only[AV.ids,h1,h2]at hi;cases hi
 simp only[go_sem,go_sem_proc];rcases B61 (d:=default) (p:=p) (l:=l)with⟨e,h0⟩ |⟨i0,hi0,e,hp0,hs0⟩
 ·rw[e,if_pos (by decide),C3p h0,A5t l.length (Nat.le_refl _) h0];refine E3 [.share] [] [] rfl rfl (by simp[go_sem]) (by simp[A9,go_sem]) (by simp[go_sem,A9]) ?_;simp only[go_sem,go_sem_proc]
 rw[e,if_neg (by simp)];refine C6 hm (ι:= {j:Nat // j≤l.length}) (fun j=> [(0, .share, .sl 1 0 l.length l.length),(1, .share, .fn (.func f) first cap),(5, .share, .sc (.int .i64 (dfR default p l j.1).1)),(6, .share, .sc (.int .i64 j.1))])
  (fun j=> [(1, .arr 4 (D2 B2.enc default (dfR default p l j.1).2))]) (fun j=>l.length-j.1) ⟨i0+1,hi0⟩ ?_ ?_
 ·have e1:dfR default p l (i0+1)=(i0,l):=by
   rw[dfR,A5t i0 (by omega) hs0];unfold A4s;rw[if_pos hp0]
  rw[e1];refine B3 [] [] (by simp[go_sem]) (by simp[A9,go_sem]) (by simp[go_sem,A9]) ?_;simp only[go_sem,go_sem_proc];exact⟨(AV.ren_id (.fn (.func f) first cap)).symm,(fun i hi=>by rw[h1,h2]at hi;cases hi),(by rw[IntKind.wrap_i64];omega)⟩
 ·rintro⟨j,hj⟩;obtain⟨g1,g2,g3,g4⟩:=A8x (d:=default) (p:=p) (l:=l) j hj;dsimp only;have hnext:=fun hjl:j<l.length=>(show dfR default p l (j+1)=A4s default p j (dfR default p l j)from rfl);generalize hst:dfR default p l j=st at g1 g2 g3 g4 hnext⊢;obtain⟨i,m⟩:=st;dsimp only at g1 g2 g3 g4 hnext⊢;simp only[go_sem,go_sem_proc];split
  ·rename_i hlt;have hlt:j<l.length:=by omega
   have hgj:=g3 j (Nat.le_refl j)
   have hn:=hnext hlt;simp only[hgj];refine⟨⟨g2.symm,by omega,by omega⟩,g2.symm,?_⟩;have hx:=hp (l.getD j default) (D6 default hlt);rw[List.append_assoc]at hx;refine A19 hx (by simp[A0g,h1,h2,C9,AV.ids]) rfl ?_;simp only[go_sem,go_sem_proc];unfold A4s at hn;dsimp only at hn;rw[hgj]at hn;cases hpx:p (l.getD j default)with
   |true=>rw[hpx,if_pos rfl]at hn;rw[if_neg (by simp)];refine B8 ⟨j+1,hlt⟩ (by show l.length-(j+1)<l.length-j;omega) ?_;simp only[hn];refine B3 [] [] (by simp[go_sem]) (by simp[A9,go_sem]) (by simp[go_sem,A9]) ?_;simp only[go_sem,go_sem_proc];exact⟨(AV.ren_id (.fn (.func f) first cap)).symm,(fun i hi=>by rw[h1,h2]at hi;cases hi),(by rw[IntKind.wrap_i64];omega)⟩
   |false=>rw[hpx,if_neg (by simp)]at hn;rw[if_pos rfl];refine⟨⟨g2.symm,by omega,by omega⟩,g2.symm,?_⟩;refine B8 ⟨j+1,hlt⟩ (by show l.length-(j+1)<l.length-j;omega) ?_;simp only[hn];rw[A4r (l.getD j default) (by omega) (by rw[←hgj];rfl)];refine B3 [] [] (by simp[go_sem]) (by simp[A9,go_sem]) (by simp[go_sem,A9]) ?_;simp only[go_sem,go_sem_proc];exact⟨(AV.ren_id (.fn (.func f) first cap)).symm,(fun i hi=>by rw[h1,h2]at hi;cases hi),(by rw[IntKind.wrap_i64];omega),(by rw[IntKind.wrap_i64];omega)⟩
  ·rename_i hge;obtain rfl:j=l.length:=by omega
   have e1:((l.length:Int)-(i:Int)).toNat=l.length-i:=by omega
   have e2:((i:Int)-0).toNat=i:=by omega
   rw[e1,e2];refine⟨⟨g2.symm,by omega,by omega,by omega⟩,g2.symm,⟨g2.symm,by omega,by omega,by omega⟩,?_⟩;unfold dfQ;rw[hst];refine E3 [.share] [] [] rfl rfl (by simp[go_sem]) (by simp[A9,go_sem]) (by simp[go_sem,A9]) ?_;simp only[go_sem,go_sem_proc];exact A2a
def D9d:List AV:=([(.int .i64 0),(.int .i64 0),(.int .i64 0),(.int .i64 0),(.int .i64 0),(.int .i64 0),(.int .i64 0),(.int .i64 0),(.int .i64 0),(.int .i64 0),(.int .i64 0),(.bool false),(.int .i64 0),(.int .i64 0),(.bool false),(.int .i64 0),(.int .i64 0),(.int .i64 0),(.int .i64 0),(.bool false),(.int .i64 0),(.int .i64 0),(.int .i64 0),(.int .i64 0)]:List Value).map .sc
theorem A87(l:List Joint)(f:FuncId)(first cap:List AV)(p:Joint→Bool)(hl:l.length≤4194304)(h1:C9 first= [])(h2:C9 cap= [])
  (hp: ∀x∈l,A5 Tryz.prog f (first++ [.agg x.enc]++cap) [] (.sc (.bool (p x))) []):
  A5 Tryz.prog A5b [.sl 1 0 l.length l.length, .fn (.func f) first cap] [(1, .arr 24 (D2 Joint.enc default l))] (.sc (.int .i64 (A2p default p l))) [(1, .arr 24 (D2 Joint.enc default l))]:=by
 refine B2z hm A1 Tryz.func254 rfl rfl ?_;refine O4 hm ?_;simp only[go_sem,go_sem_proc];refine C6 hm (ι:= {i:Nat // i≤l.length∧ ∀j,j<i→p (l.getD j default)=false}) (fun i=> [(0, .share, .sl 1 0 l.length l.length),(1, .share, .fn (.func f) first cap),(7, .share, .sc (.int .i64 l.length)),(8, .share, .sc (.int .i64 i.1))])
  (fun i=> [(1, .arr 24 (D2 Joint.enc default l))]) (fun i=>l.length-i.1) ⟨0,by omega,fun j hj=>by omega⟩ ?_ ?_
 ·refine B3 [] [] (by simp[go_sem]) (by simp[A9,go_sem]) (by simp[go_sem,A9]) ?_;simp only[go_sem,go_sem_proc];exact⟨(AV.ren_id (.fn (.func f) first cap)).symm,fun i hi=>by rw[h1,h2]at hi;cases hi⟩
 ·rintro⟨i,hi,hs⟩;simp only[go_sem,go_sem_proc];split
  ·rename_i hlt;have hlt:i<l.length:=by omega
   refine⟨⟨by omega,by omega⟩,?_⟩;have hx:=hp (l.getD i default) (D6 default hlt);rw[List.append_assoc]at hx;refine A19 hx (by simp[A0g,h1,h2,C9,AV.ids]) rfl ?_;simp only[go_sem,go_sem_proc];cases hpx:p (l.getD i default)with
   |true=>rw[if_pos rfl];refine E3 [.share] [] [] rfl rfl (by simp[go_sem]) (by simp[A9,go_sem]) (by simp[go_sem,A9]) ?_;simp only[go_sem,go_sem_proc];exact(A3z hlt hs hpx).symm
   |false=>rw[if_neg (by simp)];refine B8 ⟨i+1,by omega,fun j hj=>by rcases Nat.lt_succ_iff_lt_or_eq.1 hj with h |rfl;exact hs j h;exact hpx⟩ (by show l.length-(i+1)<l.length-i;omega) ?_;refine B3 [] [] (by simp[go_sem]) (by simp[A9,go_sem]) (by simp[go_sem,A9]) ?_;simp only[go_sem,go_sem_proc];exact⟨(AV.ren_id (.fn (.func f) first cap)).symm,(fun i hi=>by rw[h1,h2]at hi;cases hi),(by rw[IntKind.wrap_i64];omega)⟩
  ·rename_i hge;refine E3 [.share] [] [] rfl rfl (by simp[go_sem]) (by simp[A9,go_sem]) (by simp[go_sem,A9]) ?_;simp only[go_sem,go_sem_proc];exact(A0o fun j hj=>hs j (by omega)).symm
theorem B1j(l:List Joint)(f:FuncId)(first cap:List AV)(p:Joint→Bool)(hl:l.length≤4194304)(h1:C9 first= [])(h2:C9 cap= [])
  (hp: ∀x∈l,A5 Tryz.prog f (first++ [.agg x.enc]++cap) [] (.sc (.bool (p x))) []):
  A5 Tryz.prog B05 [.sl 1 0 l.length l.length, .fn (.func f) first cap] [(1, .arr 24 (D2 Joint.enc default l))] (.sl 1 0 (dfR default p l l.length).1 l.length) [(1, .arr 24 (dfQ Joint.enc default p l D9d))]:=by
 refine B2z hm A1 Tryz.func151 rfl rfl ?_;refine O4 hm ?_;simp only[go_sem,go_sem_proc];refine B1k (A87 l f first cap p hl h1 h2 hp) (by simp[okO]) (by simp[upd]) ?_ rfl ?_
 ·intro a ha i hi;simp only[List.mem_cons,List.not_mem_nil,or_false]at ha;rcases ha with rfl |rfl
  ·simp only[AV.ids,List.mem_singleton]at hi;subst hi;rfl
  ·simp only[AV.ids,h1,h2]at hi;cases hi
 simp only[go_sem,go_sem_proc];rcases B61 (d:=default) (p:=p) (l:=l)with⟨e,h0⟩ |⟨i0,hi0,e,hp0,hs0⟩
 ·rw[e,if_pos (by decide),C3p h0,A5t l.length (Nat.le_refl _) h0];refine E3 [.share] [] [] rfl rfl (by simp[go_sem]) (by simp[A9,go_sem]) (by simp[go_sem,A9]) ?_;simp only[go_sem,go_sem_proc]
 rw[e,if_neg (by simp)];refine C6 hm (ι:= {j:Nat // j≤l.length}) (fun j=> [(0, .share, .sl 1 0 l.length l.length),(1, .share, .fn (.func f) first cap),(5, .share, .sc (.int .i64 (dfR default p l j.1).1)),(6, .share, .sc (.int .i64 j.1))])
  (fun j=> [(1, .arr 24 (D2 Joint.enc default (dfR default p l j.1).2))]) (fun j=>l.length-j.1) ⟨i0+1,hi0⟩ ?_ ?_
 ·have e1:dfR default p l (i0+1)=(i0,l):=by
   rw[dfR,A5t i0 (by omega) hs0];unfold A4s;rw[if_pos hp0]
  rw[e1];refine B3 [] [] (by simp[go_sem]) (by simp[A9,go_sem]) (by simp[go_sem,A9]) ?_;simp only[go_sem,go_sem_proc];exact⟨(AV.ren_id (.fn (.func f) first cap)).symm,(fun i hi=>by rw[h1,h2]at hi;cases hi),(by rw[IntKind.wrap_i64];omega)⟩
 ·rintro⟨j,hj⟩;obtain⟨g1,g2,g3,g4⟩:=A8x (d:=default) (p:=p) (l:=l) j hj;dsimp only;have hnext:=fun hjl:j<l.length=>(show dfR default p l (j+1)=A4s default p j (dfR default p l j)from rfl);generalize hst:dfR default p l j=st at g1 g2 g3 g4 hnext⊢;obtain⟨i,m⟩:=st;dsimp only at g1 g2 g3 g4 hnext⊢;simp only[go_sem,go_sem_proc];split
  ·rename_i hlt;have hlt:j<l.length:=by omega
   have hgj:=g3 j (Nat.le_refl j)
   have hn:=hnext hlt;simp only[hgj];refine⟨⟨g2.symm,by omega,by omega⟩,g2.symm,?_⟩;have hx:=hp (l.getD j default) (D6 default hlt);rw[List.append_assoc]at hx;refine A19 hx (by simp[A0g,h1,h2,C9,AV.ids]) rfl ?_;simp only[go_sem,go_sem_proc];unfold A4s at hn;dsimp only at hn;rw[hgj]at hn;cases hpx:p (l.getD j default)with
   |true=>rw[hpx,if_pos rfl]at hn;rw[if_neg (by simp)];refine B8 ⟨j+1,hlt⟩ (by show l.length-(j+1)<l.length-j;omega) ?_;simp only[hn];refine B3 [] [] (by simp[go_sem]) (by simp[A9,go_sem]) (by simp[go_sem,A9]) ?_;simp only[go_sem,go_sem_proc];exact⟨(AV.ren_id (.fn (.func f) first cap)).symm,(fun i hi=>by rw[h1,h2]at hi;cases hi),(by rw[IntKind.wrap_i64];omega)⟩
   |false=>rw[hpx,if_neg (by simp)]at hn;rw[if_pos rfl];refine⟨⟨g2.symm,by omega,by omega⟩,g2.symm,?_⟩;refine B8 ⟨j+1,hlt⟩ (by show l.length-(j+1)<l.length-j;omega) ?_;simp only[hn];rw[A4r (l.getD j default) (by omega) (by rw[←hgj];rfl)];refine B3 [] [] (by simp[go_sem]) (by simp[A9,go_sem]) (by simp[go_sem,A9]) ?_;simp only[go_sem,go_sem_proc];exact⟨(AV.ren_id (.fn (.func f) first cap)).symm,(fun i hi=>by rw[h1,h2]at hi;cases hi),(by rw[IntKind.wrap_i64];omega),(by rw[IntKind.wrap_i64];omega)⟩
  ·rename_i hge;obtain rfl:j=l.length:=by omega
   have e1:((l.length:Int)-(i:Int)).toNat=l.length-i:=by omega
   have e2:((i:Int)-0).toNat=i:=by omega
   rw[e1,e2];refine⟨⟨g2.symm,by omega,by omega,by omega⟩,g2.symm,⟨g2.symm,by omega,by omega,by omega⟩,?_⟩;unfold dfQ;rw[hst];refine E3 [.share] [] [] rfl rfl (by simp[go_sem]) (by simp[A9,go_sem]) (by simp[go_sem,A9]) ?_;simp only[go_sem,go_sem_proc];exact A2a
def D3n:List AV:=([(.int .i64 0),(.int .i64 0),(.int .i64 0),(.int .i64 0),(.int .i64 0),(.int .i64 0),(.slice none 0 0)]:List Value).map .sc
theorem A8o(l:List D5)(f:FuncId)(first cap:List AV)(p:D5→Bool)(hl:l.length≤4194304)(h1:C9 first= [])(h2:C9 cap= [])
  (hp: ∀x∈l,A5 Tryz.prog f (first++ [.agg x.enc]++cap) [] (.sc (.bool (p x))) []):
  A5 Tryz.prog B0e [.sl 1 0 l.length l.length, .fn (.func f) first cap] [(1, .arr 7 (D2 D5.enc default l))] (.sc (.int .i64 (A2p default p l))) [(1, .arr 7 (D2 D5.enc default l))]:=by
 refine B2z hm A1 Tryz.func255 rfl rfl ?_;refine O4 hm ?_;simp only[go_sem,go_sem_proc];refine C6 hm (ι:= {i:Nat // i≤l.length∧ ∀j,j<i→p (l.getD j default)=false}) (fun i=> [(0, .share, .sl 1 0 l.length l.length),(1, .share, .fn (.func f) first cap),(7, .share, .sc (.int .i64 l.length)),(8, .share, .sc (.int .i64 i.1))])
  (fun i=> [(1, .arr 7 (D2 D5.enc default l))]) (fun i=>l.length-i.1) ⟨0,by omega,fun j hj=>by omega⟩ ?_ ?_
 ·refine B3 [] [] (by simp[go_sem]) (by simp[A9,go_sem]) (by simp[go_sem,A9]) ?_;simp only[go_sem,go_sem_proc];exact⟨(AV.ren_id (.fn (.func f) first cap)).symm,fun i hi=>by rw[h1,h2]at hi;cases hi⟩
 ·rintro⟨i,hi,hs⟩;simp only[go_sem,go_sem_proc];split
  ·rename_i hlt;have hlt:i<l.length:=by omega
   refine⟨⟨by omega,by omega⟩,?_⟩;have hx:=hp (l.getD i default) (D6 default hlt);rw[List.append_assoc]at hx;refine A19 hx (by simp[A0g,h1,h2,C9,AV.ids]) rfl ?_;simp only[go_sem,go_sem_proc];cases hpx:p (l.getD i default)with
   |true=>rw[if_pos rfl];refine E3 [.share] [] [] rfl rfl (by simp[go_sem]) (by simp[A9,go_sem]) (by simp[go_sem,A9]) ?_;simp only[go_sem,go_sem_proc];exact(A3z hlt hs hpx).symm
   |false=>rw[if_neg (by simp)];refine B8 ⟨i+1,by omega,fun j hj=>by rcases Nat.lt_succ_iff_lt_or_eq.1 hj with h |rfl;exact hs j h;exact hpx⟩ (by show l.length-(i+1)<l.length-i;omega) ?_;refine B3 [] [] (by simp[go_sem]) (by simp[A9,go_sem]) (by simp[go_sem,A9]) ?_;simp only[go_sem,go_sem_proc];exact⟨(AV.ren_id (.fn (.func f) first cap)).symm,(fun i hi=>by rw[h1,h2]at hi;cases hi),(by rw[IntKind.wrap_i64];omega)⟩
  ·rename_i hge;refine E3 [.share] [] [] rfl rfl (by simp[go_sem]) (by simp[A9,go_sem]) (by simp[go_sem,A9]) ?_;simp only[go_sem,go_sem_proc];exact(A0o fun j hj=>hs j (by omega)).symm
theorem A92(l:List D5)(f:FuncId)(first cap:List AV)(p:D5→Bool)(hl:l.length≤4194304)(h1:C9 first= [])(h2:C9 cap= [])
  (hp: ∀x∈l,A5 Tryz.prog f (first++ [.agg x.enc]++cap) [] (.sc (.bool (p x))) []):
  A5 Tryz.prog A98 [.sl 1 0 l.length l.length, .fn (.func f) first cap] [(1, .arr 7 (D2 D5.enc default l))] (.sl 1 0 (dfR default p l l.length).1 l.length) [(1, .arr 7 (dfQ D5.enc default p l D3n))]:=by
 refine B2z hm A1 Tryz.func153 rfl rfl ?_;refine O4 hm ?_;simp only[go_sem,go_sem_proc];refine B1k (A8o l f first cap p hl h1 h2 hp) (by simp[okO]) (by simp[upd]) ?_ rfl ?_
 ·intro a ha i hi;simp only[List.mem_cons,List.not_mem_nil,or_false]at ha;rcases ha with rfl |rfl
  ·simp only[AV.ids,List.mem_singleton]at hi;subst hi;rfl
  ·simp only[AV.ids,h1,h2]at hi;cases hi
 simp only[go_sem,go_sem_proc];rcases B61 (d:=default) (p:=p) (l:=l)with⟨e,h0⟩ |⟨i0,hi0,e,hp0,hs0⟩
 ·rw[e,if_pos (by decide),C3p h0,A5t l.length (Nat.le_refl _) h0];refine E3 [.share] [] [] rfl rfl (by simp[go_sem]) (by simp[A9,go_sem]) (by simp[go_sem,A9]) ?_;simp only[go_sem,go_sem_proc]
 rw[e,if_neg (by simp)];refine C6 hm (ι:= {j:Nat // j≤l.length}) (fun j=> [(0, .share, .sl 1 0 l.length l.length),(1, .share, .fn (.func f) first cap),(5, .share, .sc (.int .i64 (dfR default p l j.1).1)),(6, .share, .sc (.int .i64 j.1))])
  (fun j=> [(1, .arr 7 (D2 D5.enc default (dfR default p l j.1).2))]) (fun j=>l.length-j.1) ⟨i0+1,hi0⟩ ?_ ?_
 ·have e1:dfR default p l (i0+1)=(i0,l):=by
   rw[dfR,A5t i0 (by omega) hs0];unfold A4s;rw[if_pos hp0]
  rw[e1];refine B3 [] [] (by simp[go_sem]) (by simp[A9,go_sem]) (by simp[go_sem,A9]) ?_;simp only[go_sem,go_sem_proc];exact⟨(AV.ren_id (.fn (.func f) first cap)).symm,(fun i hi=>by rw[h1,h2]at hi;cases hi),(by rw[IntKind.wrap_i64];omega)⟩
 ·rintro⟨j,hj⟩;obtain⟨g1,g2,g3,g4⟩:=A8x (d:=default) (p:=p) (l:=l) j hj;dsimp only;have hnext:=fun hjl:j<l.length=>(show dfR default p l (j+1)=A4s default p j (dfR default p l j)from rfl);generalize hst:dfR default p l j=st at g1 g2 g3 g4 hnext⊢;obtain⟨i,m⟩:=st;dsimp only at g1 g2 g3 g4 hnext⊢;simp only[go_sem,go_sem_proc];split
  ·rename_i hlt;have hlt:j<l.length:=by omega
   have hgj:=g3 j (Nat.le_refl j)
   have hn:=hnext hlt;simp only[hgj];refine⟨⟨g2.symm,by omega,by omega⟩,g2.symm,?_⟩;have hx:=hp (l.getD j default) (D6 default hlt);rw[List.append_assoc]at hx;refine A19 hx (by simp[A0g,h1,h2,C9,AV.ids]) rfl ?_;simp only[go_sem,go_sem_proc];unfold A4s at hn;dsimp only at hn;rw[hgj]at hn;cases hpx:p (l.getD j default)with
   |true=>rw[hpx,if_pos rfl]at hn;rw[if_neg (by simp)];refine B8 ⟨j+1,hlt⟩ (by show l.length-(j+1)<l.length-j;omega) ?_;simp only[hn];refine B3 [] [] (by simp[go_sem]) (by simp[A9,go_sem]) (by simp[go_sem,A9]) ?_;simp only[go_sem,go_sem_proc];exact⟨(AV.ren_id (.fn (.func f) first cap)).symm,(fun i hi=>by rw[h1,h2]at hi;cases hi),(by rw[IntKind.wrap_i64];omega)⟩
   |false=>rw[hpx,if_neg (by simp)]at hn;rw[if_pos rfl];refine⟨⟨g2.symm,by omega,by omega⟩,g2.symm,?_⟩;refine B8 ⟨j+1,hlt⟩ (by show l.length-(j+1)<l.length-j;omega) ?_;simp only[hn];rw[A4r (l.getD j default) (by omega) (by rw[←hgj];rfl)];refine B3 [] [] (by simp[go_sem]) (by simp[A9,go_sem]) (by simp[go_sem,A9]) ?_;simp only[go_sem,go_sem_proc];exact⟨(AV.ren_id (.fn (.func f) first cap)).symm,(fun i hi=>by rw[h1,h2]at hi;cases hi),(by rw[IntKind.wrap_i64];omega),(by rw[IntKind.wrap_i64];omega)⟩
  ·rename_i hge;obtain rfl:j=l.length:=by omega
   have e1:((l.length:Int)-(i:Int)).toNat=l.length-i:=by omega
   have e2:((i:Int)-0).toNat=i:=by omega
   rw[e1,e2];refine⟨⟨g2.symm,by omega,by omega,by omega⟩,g2.symm,⟨g2.symm,by omega,by omega,by omega⟩,?_⟩;unfold dfQ;rw[hst];refine E3 [.share] [] [] rfl rfl (by simp[go_sem]) (by simp[A9,go_sem]) (by simp[go_sem,A9]) ?_;simp only[go_sem,go_sem_proc];exact A2a
end Go.Abs
end
section
namespace Go.Abs
open Go.Proofs
noncomputable def E10:FnG Tryz.prog 142:=mkG Tryz.f142.ntmps [(2,none),(3,none),(4,none)] A1 Tryz.func142 rfl
noncomputable def B36:Tab Tryz.prog:=(.node 142 E10 .leaf .leaf)
end Go.Abs
end
section
namespace Go.Abs
open Go.Proofs
open Api
def uf(k:Int):Bool×Bool×Bool:=if k=1∨k=2∨k=7 then(true,true,false)else if k=3∨k=8 then(true,false,true)else if k=4∨k=5 then(true,true,true)else if k=6∨k=10∨k=12 then(true,false,false)else(false,false,false)
theorem C04(k:Int):A5 Tryz.prog C0i [.sc (.int .i64 k)] [] (.tup [.sc (.bool (uf k).1), .sc (.bool (uf k).2.1), .sc (.bool (uf k).2.2)]) []:=by
 by_cases h1:k=1
 ·subst h1;exact A6s hm B36 (A1m.none _) 5 (by kernel_rfl) (by kernel_rfl)
 by_cases h2:k=2
 ·subst h2;exact A6s hm B36 (A1m.none _) 5 (by kernel_rfl) (by kernel_rfl)
 by_cases h3:k=3
 ·subst h3;exact A6s hm B36 (A1m.none _) 5 (by kernel_rfl) (by kernel_rfl)
 by_cases h4:k=4
 ·subst h4;exact A6s hm B36 (A1m.none _) 5 (by kernel_rfl) (by kernel_rfl)
 by_cases h5:k=5
 ·subst h5;exact A6s hm B36 (A1m.none _) 5 (by kernel_rfl) (by kernel_rfl)
 by_cases h6:k=6
 ·subst h6;exact A6s hm B36 (A1m.none _) 5 (by kernel_rfl) (by kernel_rfl)
 by_cases h7:k=7
 ·subst h7;exact A6s hm B36 (A1m.none _) 5 (by kernel_rfl) (by kernel_rfl)
 by_cases h8:k=8
 ·subst h8;exact A6s hm B36 (A1m.none _) 5 (by kernel_rfl) (by kernel_rfl)
 by_cases h10:k=10
 ·subst h10;exact A6s hm B36 (A1m.none _) 5 (by kernel_rfl) (by kernel_rfl)
 by_cases h12:k=12
 ·subst h12;exact A6s hm B36 (A1m.none _) 5 (by kernel_rfl) (by kernel_rfl)
 have hu:uf k=(false,false,false):=by simp[uf, *]
 rw[hu];refine enT hm A1 Tryz.func142 rfl rfl ?_;simp only[go_sem,go_sem_proc];simp only[beq_eq_false_iff_ne.2 h1,beq_eq_false_iff_ne.2 h2,beq_eq_false_iff_ne.2 h3,beq_eq_false_iff_ne.2 h4,beq_eq_false_iff_ne.2 h5,beq_eq_false_iff_ne.2 h6,beq_eq_false_iff_ne.2 h7,beq_eq_false_iff_ne.2 h8,beq_eq_false_iff_ne.2 h10,beq_eq_false_iff_ne.2 h12,h1,h2,h3,h4,h5,h6,h7,h8,h10,h12,if_false,Bool.false_eq_true,go_sem,go_sem_proc]
end Go.Abs
end
section
namespace Go.Abs
open Go.Proofs
open Api
theorem A0p {α:Type}{z:Nat}{enc:α→List AV}{d:α}{l:List α}{i:Nat}{a:α}(hi:i<l.length)(c:List AV)(hc:c=enc a):J5 (.dsl z l.length ((D2 enc d l).set i c).g) (.dsl z l.length (O6 enc d (l.set i a))):=by subst hc;rw[A4r _ hi rfl];exact B7 _
def A46(w:Api.World)(id:Int):Api.World:=if 0≤Q7 w id∧(w.Bodies.getD (Q7 w id).toNat default).Kind=3 then {w with Bodies:=w.Bodies.set (Q7 w id).toNat {(w.Bodies.getD (Q7 w id).toNat default)with Asleep:=false,IdleSteps:=0}}else w
theorem A0z(w:Api.World)(id:Int)(hw:Wsm w):A5 Tryz.prog C3k [.agg w.enc, .sc (.int .i64 id)] [] (.agg (A46 w id).enc) []:=by
 have hB:=hw.1
 have hlt:=A0t w id;refine P7 33 [(4,some (some 11))] hm A1 Tryz.func158 rfl ?_;simp only[go_sem,go_sem_proc];refine A05 ev_ B0 (A0n w hw) ?_;simp only[go_sem,go_sem_proc];refine B8p ev_ B0 (U6 w id hB) (by rfl) ?_;simp only[go_sem,go_sem_proc];refine⟨fun h=>⟨h,hlt.2⟩,?_⟩;by_cases hc:0≤Q7 w id∧(w.Bodies.getD (Q7 w id).toNat default).Kind=3
 ·have hi:(Q7 w id).toNat<w.Bodies.length:=by omega
  rw[if_pos (by rw[if_pos hc.1];simpa using hc.2)];refine⟨⟨hc.1,hlt.2⟩,⟨hc.1,hlt.2⟩,?_⟩;simp(disch:=omega) only[A46,if_pos hc,A35,List.length_set,true_and,and_true];exact⟨A0p hi _ rfl,B7 _,B7 _,B7 _⟩
 ·rw[if_neg (by intro h;apply hc;split at h <;> simp_all)];simp only[A46,if_neg hc,true_and,and_true];exact⟨B7 _,B7 _,B7 _,B7 _⟩
end Go.Abs
end
section
namespace Go.Abs
open Go.Proofs
open Api
theorem C0b(l m:List Vec)(hl:l.length≤1048576):A5 Tryz.prog B9t [B4 2 Vec.enc default l,B4 2 Vec.enc default m] [] (.sc (.bool (decide (l=m)))) []:=by
 refine en1 hm A1 Tryz.func438 rfl rfl ?_;simp only[go_sem];split
 ·rename_i hne;exact(decide_eq_false (C32 fun e=>by rw[e]at hne;simp at hne)).symm
 ·rename_i hne;have hlen:l.length=m.length:=by simp at hne;omega
  refine C6 hm (ι:= {i:Nat // i≤l.length∧l.take i=m.take i}) (fun i=> [(0, .share,B4 2 Vec.enc default l),(1, .share,B4 2 Vec.enc default m),(12, .share, .sc (.int .i64 l.length)),(13, .share, .sc (.int .i64 i.1))])
   (fun i=> []) (fun i=>l.length-i.1) ⟨0,by omega,rfl⟩ ?_ ?_
  ·refine B3 [] [] (by simp) (by simp[A9]) (by simp) ?_;simp only[go_sem]
   try trivial
  ·rintro⟨i,hi,ht⟩;simp only[Vec.beq,go_sem];split
   ·rename_i hlt;have hlt:i<l.length:=by omega
    have hltm:i<m.length:=by omega
    refine⟨ok_,ok_,?_⟩;by_cases he:l.getD i default=m.getD i default
    ·rw[if_neg (by rw[decide_eq_true he];simp)];refine B8 ⟨i+1,by omega,A07 default ht hlt hltm he⟩ (by show l.length-(i+1)<l.length-i;omega) (F9 [] [] ?_);simp only[go_sem];exact(by rw[IntKind.wrap_i64];omega)
    ·rw[if_pos (by rw[decide_eq_false he])];exact(decide_eq_false (C73 default he)).symm
   ·rename_i hge;have hil:i=l.length:=by omega
    subst hil;exact(decide_eq_true (A5y hlen ht)).symm
theorem C80(x y:Shape)(h:Shape.sm x):A5 Tryz.prog C9q [.agg x.enc, .agg y.enc] [] (.sc (.bool (decide (x=y)))) []:=by refine en1 hm A1 Tryz.func368 rfl rfl ?_;simp only[go_sem];refine A0 (C0b x.Vertices y.Vertices h) rfl ?_;simp only[go_sem];cases x;cases y;rw[Bool.eq_iff_iff];simp[and_assoc]
theorem B60(x y:Fixture)(h:Fixture.sm x):A5 Tryz.prog B68 [.agg x.enc, .agg y.enc] [] (.sc (.bool (decide (x=y)))) []:=by
 refine en1 hm A1 Tryz.func253 rfl rfl ?_;simp only[go_sem];refine A0 (C80 x.Shape y.Shape h) rfl ?_;simp only[go_sem];cases x;cases y;rw[Bool.eq_iff_iff];simp
 grind
theorem B15(x y:Body)(h:Body.sm x):A5 Tryz.prog B81 [.agg x.enc, .agg y.enc] [] (.sc (.bool (decide (x=y)))) []:=by
 have hb:=h.1;refine en1 hm A1 Tryz.func144 rfl rfl ?_;simp only[go_sem];split
 ·rename_i hc;exact(decide_eq_false fun e=>by subst e;simp at hc).symm
 ·rename_i hc;simp at hc;have hlen:x.Fixtures.length=y.Fixtures.length:=by omega
  refine C6 hm (ι:= {i:Nat // i≤x.Fixtures.length∧x.Fixtures.take i=y.Fixtures.take i}) (fun i=> [(2, .share, .ptr 48 0 0 1),(3, .share, .ptr 64 0 0 1),(21, .share,B4 10 Fixture.enc default x.Fixtures),(22, .share, .sc (.int .i64 x.Fixtures.length)),(23, .share, .sc (.int .i64 i.1))])
   (fun i=> [(48, .box x.enc),(64, .box y.enc)]) (fun i=>x.Fixtures.length-i.1) ⟨0,by omega,rfl⟩ ?_ ?_
  ·refine B3 [] [] (by simp) (by simp[A9]) (by simp) ?_;simp only[go_sem]
   try trivial
  ·rintro⟨i,hi,ht⟩;simp only[go_sem];by_cases hlt:i<x.Fixtures.length
   ·have hltm:i<y.Fixtures.length:=by omega
    rw[if_pos (by omega)];refine⟨ok_,ok_,?_⟩;refine A0 (B60 (x.Fixtures.getD i default) (y.Fixtures.getD i default) (h.2 _ (D6 _ hlt))) rfl ?_;simp only[go_sem];by_cases he:x.Fixtures.getD i default=y.Fixtures.getD i default
    ·rw[if_neg (by rw[decide_eq_true he];simp)];refine B8 ⟨i+1,by omega,A07 default ht hlt hltm he⟩ (by show x.Fixtures.length-(i+1)<x.Fixtures.length-i;omega) (B3 [] [] (by simp) (by simp[A9]) (by simp) ?_);simp only[go_sem];exact(by rw[IntKind.wrap_i64];omega)
    ·rw[if_pos (decide_eq_false he)];exact(decide_eq_false fun e=>he (by rw[e])).symm
   ·rw[if_neg (by omega)];have hil:i=x.Fixtures.length:=by omega
    subst hil;have hp:=A5y hlen ht;clear hc hlen ht hi hlt hb h;obtain⟨x0,x1,⟨⟨x2,x3⟩,x4⟩,⟨x5,x6⟩,x7,⟨x8,x9⟩,x10,x11,x12,x13,x14,x15,x16,x17,x18,x19⟩:=x;obtain⟨y0,y1,⟨⟨y2,y3⟩,y4⟩,⟨y5,y6⟩,y7,⟨y8,y9⟩,y10,y11,y12,y13,y14,y15,y16,y17,y18,y19⟩:=y;simp only at hp;subst hp;rw[Bool.eq_iff_iff];simp
    grind
end Go.Abs
end
section
namespace Go.Abs
open Go.Proofs
open Api
def zBd:Body:=⟨0,0,⟨⟨0,0⟩,0⟩,⟨0,0⟩,0,⟨0,0⟩,0,0,0,0,false,false,false,false,0,[]⟩
theorem C9a(b:Body)(h:Body.sm b):A5 Tryz.prog B81 [.agg b.enc, .agg [.sc (.int .i64 0), .sc (.int .i64 0), .sc (.int .i64 0), .sc (.int .i64 0), .sc (.int .i64 0), .sc (.int .i64 0), .sc (.int .i64 0), .sc (.int .i64 0), .sc (.int .i64 0), .sc (.int .i64 0), .sc (.int .i64 0), .sc (.int .i64 0), .sc (.int .i64 0), .sc (.int .i64 0), .sc (.bool false), .sc (.bool false), .sc (.bool false), .sc (.bool false), .sc (.int .i64 0), .sc (.slice none 0 0)]] [] (.sc (.bool (decide (b=(⟨0,0,⟨⟨0,0⟩,0⟩,⟨0,0⟩,0,⟨0,0⟩,0,0,0,0,false,false,false,false,0,[]⟩:Body))))) []:=A5.args_le (B15 b zBd h) ⟨I7.refl _,I7.agg ⟨I7.refl _,I7.refl _,I7.refl _,I7.refl _,I7.refl _,I7.refl _,I7.refl _,I7.refl _,I7.refl _,I7.refl _,I7.refl _,I7.refl _,I7.refl _,I7.refl _,I7.refl _,I7.refl _,I7.refl _,I7.refl _,I7.refl _,I7.nil,trivial⟩,trivial⟩
theorem A7o: ∀(w:Api.World) (id:Int),Wsm w→Wsm (A46 w id):=by
 rintro w id ⟨h1,h2,h3,h4,h5,h6⟩;unfold A46;split
 ·rename_i hc;refine⟨by simpa using h1,h2,h3,h4,fun b hb=> ?_,h6⟩;rcases List.mem_or_eq_of_mem_set hb with hb |rfl
  ·exact h5 _ hb
  ·have hlt:=A0t w id
   have:=h5 (w.Bodies.getD (Q7 w id).toNat default) (D6 default (by omega));exact⟨this.1,this.2⟩
 ·exact⟨h1,h2,h3,h4,h5,h6⟩
theorem C99 {w:Api.World}(h:Wsm w)(l:List Joint)(n f:Int)(hl:l.length≤1048576):Wsm ⟨w.Settings,w.Bodies,l,w.Contacts,w.Overlaps,n,f⟩:=⟨h.1,hl,h.2.2.1,h.2.2.2.1,h.2.2.2.2.1,h.2.2.2.2.2⟩
theorem E48 {w:Api.World}(h:Wsm w)(i:Nat)(b:Body)(hb:Body.sm b):Wsm ⟨w.Settings,w.Bodies.set i b,w.Joints,w.Contacts,w.Overlaps,w.NextID,w.Frame⟩:=⟨by simpa using h.1,h.2.1,h.2.2.1,h.2.2.2.1,fun b' hb'=>by rcases List.mem_or_eq_of_mem_set hb' with k |rfl;exact h.2.2.2.2.1 _ k;exact hb,h.2.2.2.2.2⟩
def A37(x:Api.Input):Int:=if((decide (x.Kind<1))||(decide (12<x.Kind)))=true then(10)else(let v1:=(uf x.Kind);if(v1.1&&((decide (x.ID<1))||(decide (1099511627776<x.ID))))=true then(if(v1.1&&((decide (x.ID<1))||(decide (1099511627776<x.ID))))=true then(6)else(if((!v1.1)&&(x.ID != 0))=true then(if((!v1.1)&&(x.ID != 0))=true then(3)else(0))else(if((!v1.2.1)&&(!((x.Vec.X==0)&&(x.Vec.Y==0))))=true then(if((!v1.2.1)&&(!((x.Vec.X==0)&&(x.Vec.Y==0))))=true then(3)else(0))else(if((!v1.2.2)&&(x.Value != 0))=true then(if((!v1.2.2)&&(x.Value != 0))=true then(3)else(0))else(let v2:=(decide (x.Body=(⟨0,0,(⟨(⟨0,0⟩:Vec),0⟩:Transform),(⟨0,0⟩:Vec),0,(⟨0,0⟩:Vec),0,0,0,0,false,false,false,false,0,([]:List Fixture)⟩:Body)));if((x.Kind != 9)&&(!v2))=true then(if((x.Kind != 9)&&(!v2))=true then(3)else(0))else(if((x.Kind != 11)&&(!((x.Joint.ID==0)&&((x.Joint.Kind==0)&&((x.Joint.BodyA==0)&&((x.Joint.BodyB==0)&&((x.Joint.AnchorA.X==0)&&((x.Joint.AnchorA.Y==0)&&((x.Joint.AnchorB.X==0)&&((x.Joint.AnchorB.Y==0)&&((x.Joint.Axis.X==0)&&((x.Joint.Axis.Y==0)&&((x.Joint.ReferenceAngle==0)&&((x.Joint.EnableLimit==false)&&((x.Joint.Lower==0)&&((x.Joint.Upper==0)&&((x.Joint.EnableMotor==false)&&((x.Joint.MotorSpeed==0)&&((x.Joint.MaxForce==0)&&((x.Joint.Softness==0)&&((x.Joint.BreakForce==0)&&((x.Joint.CollideConnected==false)&&((x.Joint.Impulses.I0==0)&&((x.Joint.Impulses.I1==0)&&((x.Joint.Impulses.I2==0)&&(x.Joint.Impulses.I3==0))))))))))))))))))))))))))=true then(3)else(0)))))))else(let v3:=(A0r x.Vec.X);let v4:=(A0r x.Vec.Y);if(v1.2.1&&((!v3)||(!v4)))=true then(if(v1.2.1&&((!v3)||(!v4)))=true then(6)else(if((!v1.1)&&(x.ID != 0))=true then(if((!v1.1)&&(x.ID != 0))=true then(3)else(0))else(if((!v1.2.1)&&(!((x.Vec.X==0)&&(x.Vec.Y==0))))=true then(if((!v1.2.1)&&(!((x.Vec.X==0)&&(x.Vec.Y==0))))=true then(3)else(0))else(if((!v1.2.2)&&(x.Value != 0))=true then(if((!v1.2.2)&&(x.Value != 0))=true then(3)else(0))else(let v5:=(decide (x.Body=(⟨0,0,(⟨(⟨0,0⟩:Vec),0⟩:Transform),(⟨0,0⟩:Vec),0,(⟨0,0⟩:Vec),0,0,0,0,false,false,false,false,0,([]:List Fixture)⟩:Body)));if((x.Kind != 9)&&(!v5))=true then(if((x.Kind != 9)&&(!v5))=true then(3)else(0))else(if((x.Kind != 11)&&(!((x.Joint.ID==0)&&((x.Joint.Kind==0)&&((x.Joint.BodyA==0)&&((x.Joint.BodyB==0)&&((x.Joint.AnchorA.X==0)&&((x.Joint.AnchorA.Y==0)&&((x.Joint.AnchorB.X==0)&&((x.Joint.AnchorB.Y==0)&&((x.Joint.Axis.X==0)&&((x.Joint.Axis.Y==0)&&((x.Joint.ReferenceAngle==0)&&((x.Joint.EnableLimit==false)&&((x.Joint.Lower==0)&&((x.Joint.Upper==0)&&((x.Joint.EnableMotor==false)&&((x.Joint.MotorSpeed==0)&&((x.Joint.MaxForce==0)&&((x.Joint.Softness==0)&&((x.Joint.BreakForce==0)&&((x.Joint.CollideConnected==false)&&((x.Joint.Impulses.I0==0)&&((x.Joint.Impulses.I1==0)&&((x.Joint.Impulses.I2==0)&&(x.Joint.Impulses.I3==0))))))))))))))))))))))))))=true then(3)else(0)))))))else(let v6:=(A0r x.Value);if(v1.2.2&&(!v6))=true then(6)else(if((!v1.1)&&(x.ID != 0))=true then(if((!v1.1)&&(x.ID != 0))=true then(3)else(0))else(if((!v1.2.1)&&(!((x.Vec.X==0)&&(x.Vec.Y==0))))=true then(if((!v1.2.1)&&(!((x.Vec.X==0)&&(x.Vec.Y==0))))=true then(3)else(0))else(if((!v1.2.2)&&(x.Value != 0))=true then(if((!v1.2.2)&&(x.Value != 0))=true then(3)else(0))else(let v7:=(decide (x.Body=(⟨0,0,(⟨(⟨0,0⟩:Vec),0⟩:Transform),(⟨0,0⟩:Vec),0,(⟨0,0⟩:Vec),0,0,0,0,false,false,false,false,0,([]:List Fixture)⟩:Body)));if((x.Kind != 9)&&(!v7))=true then(if((x.Kind != 9)&&(!v7))=true then(3)else(0))else(if((x.Kind != 11)&&(!((x.Joint.ID==0)&&((x.Joint.Kind==0)&&((x.Joint.BodyA==0)&&((x.Joint.BodyB==0)&&((x.Joint.AnchorA.X==0)&&((x.Joint.AnchorA.Y==0)&&((x.Joint.AnchorB.X==0)&&((x.Joint.AnchorB.Y==0)&&((x.Joint.Axis.X==0)&&((x.Joint.Axis.Y==0)&&((x.Joint.ReferenceAngle==0)&&((x.Joint.EnableLimit==false)&&((x.Joint.Lower==0)&&((x.Joint.Upper==0)&&((x.Joint.EnableMotor==false)&&((x.Joint.MotorSpeed==0)&&((x.Joint.MaxForce==0)&&((x.Joint.Softness==0)&&((x.Joint.BreakForce==0)&&((x.Joint.CollideConnected==false)&&((x.Joint.Impulses.I0==0)&&((x.Joint.Impulses.I1==0)&&((x.Joint.Impulses.I2==0)&&(x.Joint.Impulses.I3==0))))))))))))))))))))))))))=true then(3)else(0)))))))))
theorem U4(x:Api.Input)(h0:Body.sm x.Body):A5 Tryz.prog C2v [.agg x.enc] [] (.sc (.int .i64 (A37 x))) []:=by
 refine en1 hm A1 Tryz.func74 rfl rfl ?_;have:=C9a
 have:=fun x1 x2 x3 x4 x5 x6 x7 x8 x9 x10 x11 x12 x13 x14 x15 x16 x17 x18 x19 x20 x21 h0=>cx_ (B15 x1 ⟨x2,x3,⟨⟨x4,x5⟩,x6⟩,⟨x7,x8⟩,x9,⟨x10,x11⟩,x12,x13,x14,x15,x16,x17,x18,x19,x20,x21⟩ h0)
 have:=C04
 have:=B15
 have:=B72
 have:=A37.eq_1 x;exact A2i
def W6(b:Body)(x:Api.Input):Body:=if(x.Kind==1)=true then(let v1:=(Y9 b);let v2:=(A2l b v1 x.Vec);v2)else(if(x.Kind==3)=true then(let v3:=(X5 b x.Value);v3)else(if(x.Kind==2)=true then(let v4:=(T8 b.Force x.Vec);(⟨b.ID,b.Kind,b.Transform,b.Velocity,b.AngularVelocity,v4,b.Torque,b.LinearDamping,b.AngularDamping,b.GravityScale,b.Bullet,b.FixedRotation,b.NoSleep,b.Asleep,b.IdleSteps,b.Fixtures⟩:Body))else(if(x.Kind==4)=true then((⟨b.ID,b.Kind,(⟨x.Vec,x.Value⟩:Transform),b.Velocity,b.AngularVelocity,b.Force,b.Torque,b.LinearDamping,b.AngularDamping,b.GravityScale,b.Bullet,b.FixedRotation,b.NoSleep,b.Asleep,b.IdleSteps,b.Fixtures⟩:Body))else(if(x.Kind==5)=true then(let v5:=(A0d (⟨b.ID,b.Kind,b.Transform,x.Vec,x.Value,b.Force,b.Torque,b.LinearDamping,b.AngularDamping,b.GravityScale,b.Bullet,b.FixedRotation,b.NoSleep,b.Asleep,b.IdleSteps,b.Fixtures⟩:Body));v5)else(b)))))
theorem C50(b:Body)(x:Api.Input)(h0:Body.sm b):A5 Tryz.prog C49 [.agg b.enc, .agg x.enc] [] (.agg (W6 b x).enc) []:=by
 refine P7 48 [(4,some (some 20))] hm A1 Tryz.func160 rfl ?_;have:=h0.2
 have:=fun x1 x2 x3 x4 x5 x6 x7 x8 x9 x10 x11 x12 x13 x14 x15 x16 x17 x18 x19 x20=>cx_ (A38 ⟨x1,x2,⟨⟨x3,x4⟩,x5⟩,⟨x6,x7⟩,x8,⟨x9,x10⟩,x11,x12,x13,x14,x15,x16,x17,x18,x19,x20⟩)
 have:=A96
 have:=B8f
 have:=B0c
 have:=A17
 have:=A38
 have:=W6.eq_1 b x;exact A2i
end Go.Abs
end
section
namespace Go.Abs
open Go.Proofs
open Api
def A0v(l:List Int)(k:Nat)(w:Api.World):Api.World:=if l.getD k 0=0 then w else A46 w (l.getD k 0)
def A84(w:Api.World)(l:List Int):Api.World:=itr (A0v l) l.length w
theorem B4f(l:List Int){w:Api.World}(hw:Wsm w): ∀n,Wsm (itr (A0v l) n w)
 |0=>hw
 |n+1=>by
  rw[H7];have:=B4f l hw n;unfold A0v;split
  ·exact this
  ·exact A7o _ _ this
def Q0:List AV:= [.sc (.int .i64 0), .sc (.int .i64 0), .sc (.int .i64 0), .sc (.int .i64 0), .sc (.int .i64 0), .sc (.slice none 0 0), .sc (.slice none 0 0), .sc (.slice none 0 0), .sc (.slice none 0 0), .sc (.int .i64 0), .sc (.int .i64 0)]
theorem A8l(w:Api.World)(l:List Int)(hw:Wsm w)(hl:l.length≤4194304):A5 Tryz.prog C5l [.agg w.enc,B4 1 K4 0 l] [] (.agg (A84 w l).enc) []:=by
 refine P7 20 [(4,some (some 11))] hm A1 Tryz.func146 rfl ?_;simp only[go_sem,go_sem_proc];refine C6 hm (ι:= {i:Nat // i≤l.length}) (fun i=> [(2, .share, .ptr 48 0 0 1),(4, .share, .ptr 80 0 0 1),(7, .share,B4 1 K4 0 l),(8, .share, .sc (.int .i64 l.length)),(9, .share, .sc (.int .i64 i.1))])
  (fun i=> [(48, .box (itr (A0v l) i.1 w).enc),(80, .box Q0)]) (fun i=>l.length-i.1) ⟨0,by omega⟩ ?_ ?_
 ·refine B3 [] [] (by simp[go_sem]) (by simp[A9,go_sem]) (by simp[go_sem]) ?_;simp only[go_sem,go_sem_proc,Q0,B6]
  all_goals simp[go_sem,go_sem_proc]
 ·rintro⟨i,hi⟩;have hs:=B4f l hw i
  have hnext:itr (A0v l) (i+1) w=A0v l i (itr (A0v l) i w):=H7 ..;dsimp only;generalize hv:itr (A0v l) i w=v at hs hnext⊢;have hfin:l.length≤i→v=A84 w l:=fun h=>by
   obtain rfl:i=l.length:=by omega
   exact hv.symm
  simp only[go_sem,go_sem_proc,Q0];split
  ·rename_i hlt;have hlt:i<l.length:=by omega
   refine⟨⟨by omega,by omega⟩,?_⟩;have fin: ∀(v':Api.World),v'=itr (A0v l) (i+1) w→True:=fun _ _=>trivial;by_cases h0:l.getD i 0=0
   ·rw[if_neg (by simpa using h0)];replace hnext:itr (A0v l) (i+1) w=v:=by rw[hnext];unfold A0v;rw[if_pos h0]
    refine B8 ⟨i+1,hlt⟩ (by show l.length-(i+1)<l.length-i;omega) ?_;simp only[hnext];refine B3 [] [] (by simp[go_sem]) (by simp[A9,go_sem]) (by simp[go_sem]) ?_;simp only[go_sem,go_sem_proc,Q0];exact(by rw[IntKind.wrap_i64];omega)
   ·rw[if_pos (by simpa using h0)];replace hnext:itr (A0v l) (i+1) w=A46 v (l.getD i 0):=by rw[hnext];unfold A0v;rw[if_neg h0]
    refine A0 (A0z v (l.getD i 0) hs) rfl ?_;simp only[go_sem,go_sem_proc];refine B8 ⟨i+1,hlt⟩ (by show l.length-(i+1)<l.length-i;omega) ?_;simp only[hnext];refine B3 [] [] (by simp[go_sem]) (by simp[A9,go_sem]) (by simp[go_sem]) ?_;simp only[go_sem,go_sem_proc,Q0];exact(by rw[IntKind.wrap_i64];omega)
  ·rename_i hge;have hv:=hfin (by omega);subst hv;exact⟨rfl,rfl,rfl,rfl,rfl,B7 _,B7 _,B7 _,B7 _,rfl,rfl⟩
end Go.Abs
end
section
namespace Go.Abs
open Go.Proofs
open Api
def zW:Api.World:=⟨⟨0,⟨0,0⟩,0,0⟩,[],[],[],[],0,0⟩
theorem A2f:Wsm zW:=⟨Nat.zero_le _,Nat.zero_le _,Nat.zero_le _,Nat.zero_le _,(fun b hb=>by cases hb),(fun c hc=>by cases hc)⟩
def bID(b:Body)(n:Int):Body:=⟨n,b.Kind,b.Transform,b.Velocity,b.AngularVelocity,b.Force,b.Torque,b.LinearDamping,b.AngularDamping,b.GravityScale,b.Bullet,b.FixedRotation,b.NoSleep,b.Asleep,b.IdleSteps,b.Fixtures⟩
theorem C57(w:Api.World)(b:Body)(hw:Wsm w)(hb:Body.sm b): ∃r:Api.World×Int×Int,Wsm r.1∧A5 Tryz.prog C52 [.agg w.enc, .agg b.enc] [] (.tup [.agg r.1.enc, .sc (.int .i64 r.2.1), .sc (.int .i64 r.2.2)]) []:=by
 have hl:=hw.1
 have hb2:Body.sm (bID b w.NextID):=⟨hb.1,hb.2⟩;by_cases h1:(if 32≤(w.Bodies.length:Int)then true else decide (1099511627776≤w.NextID))=true
 ·refine⟨(zW,0,9),A2f,?_⟩;refine P6 41 [(4,some (some 11)),(5,none),(6,none)] hm A1 Tryz.func75 rfl ?_;simp only[go_sem,go_sem_proc];rw[if_pos h1]
  (repeat' (with_reducible apply And.intro)) <;> first |with_reducible rfl |rfl |exact B7 _ |exact C1 rfl |exact H3 _ rfl rfl rfl rfl |omega |(unfold maxLen;omega)
 have h3:(w.Bodies.length:Int)<32:=by
  rcases Int.lt_or_le (w.Bodies.length:Int) 32 with h |h
  ·exact h
  ·exact absurd (by rw[if_pos h]) h1
 by_cases h2:A0a (bID b w.NextID)=0
 ·refine⟨(⟨w.Settings,w.Bodies++ [bID b w.NextID],w.Joints,w.Contacts,w.Overlaps,IntKind.i64.wrap (w.NextID+1),w.Frame⟩,w.NextID,0),⟨by show(w.Bodies++ [bID b w.NextID]).length≤_;rw[List.length_append,List.length_singleton];omega,hw.2.1,hw.2.2.1,hw.2.2.2.1,fun x hx=>by rcases List.mem_append.1 hx with k |k;exact hw.2.2.2.2.1 _ k;rw[List.mem_singleton]at k;subst k;exact hb2,hw.2.2.2.2.2⟩,?_⟩;refine P6 41 [(4,some (some 11)),(5,none),(6,none)] hm A1 Tryz.func75 rfl ?_;simp only[go_sem,go_sem_proc];rw[if_neg h1];refine A0 (A8a b hb) rfl ?_;simp only[go_sem,go_sem_proc];refine A0 (A8h (bID b w.NextID) hb2) rfl ?_;simp only[go_sem,go_sem_proc];rw[if_neg (by simp[h2])];refine A05 ev_ B0 (A0n w hw) ?_;simp only[go_sem,go_sem_proc]
  (repeat' (with_reducible apply And.intro)) <;> first |with_reducible rfl |rfl |exact B7 _ |exact C1 rfl |exact H3 _ rfl rfl rfl rfl |omega |(unfold maxLen;omega)
 ·refine⟨(zW,0,14),A2f,?_⟩;refine P6 41 [(4,some (some 11)),(5,none),(6,none)] hm A1 Tryz.func75 rfl ?_;simp only[go_sem,go_sem_proc];rw[if_neg h1];refine A0 (A8a b hb) rfl ?_;simp only[go_sem,go_sem_proc];refine A0 (A8h (bID b w.NextID) hb2) rfl ?_;simp only[go_sem,go_sem_proc];rw[if_pos (by simpa using h2)]
  (repeat' (with_reducible apply And.intro)) <;> first |with_reducible rfl |rfl |exact B7 _ |exact C1 rfl |exact H3 _ rfl rfl rfl rfl |omega |(unfold maxLen;omega)
end Go.Abs
end
section
namespace Go.Abs
open Go.Proofs
open Api
def jID(j:Joint)(n:Int):Joint:=let k:=A33 j;⟨n,k.Kind,k.BodyA,k.BodyB,k.AnchorA,k.AnchorB,k.Axis,k.ReferenceAngle,k.EnableLimit,k.Lower,k.Upper,k.EnableMotor,k.MotorSpeed,k.MaxForce,k.Softness,k.BreakForce,k.CollideConnected,k.Impulses⟩
theorem B3g {w:Api.World}(hw:Wsm w)(l:List Int):Wsm (A84 w l):=B4f l hw _
theorem I5 {a b:Int}{g:Nat→List AV}(h: ∀i,g i=([AV.sc (.int .i64 a), .sc (.int .i64 b)].drop (i*1)).take 1):J5 (.dsl 1 2 g) (B4 1 K4 0 [a,b]):=by
 unfold B4;rw[A1c];refine⟨rfl,rfl,fun i hi=> ?_⟩;rw[h];have:i=0∨i=1:=by omega
 rcases this with rfl |rfl <;> exact Q6 _
theorem C4a(w:Api.World)(j:Joint)(hw:Wsm w): ∃r:Api.World×Int×Int,Wsm r.1∧A5 Tryz.prog C3x [.agg w.enc, .agg j.enc] [] (.tup [.agg r.1.enc, .sc (.int .i64 r.2.1), .sc (.int .i64 r.2.2)]) []:=by
 have hl:=hw.1;by_cases h1:(if 32≤(w.Joints.length:Int)then true else decide (1099511627776≤w.NextID))=true
 ·refine⟨(zW,0,9),A2f,?_⟩;refine P6 53 [(4,some (some 11)),(5,none),(6,none)] hm A1 Tryz.func76 rfl ?_;simp only[go_sem,go_sem_proc];rw[if_pos h1]
  (repeat' (with_reducible apply And.intro)) <;> first |with_reducible rfl |rfl |exact B7 _ |exact C1 rfl |exact H3 _ rfl rfl rfl rfl |exact I5 (fun _=>rfl) |omega |(unfold maxLen;omega)
 have h3:(w.Joints.length:Int)<32:=by
  rcases Int.lt_or_le (w.Joints.length:Int) 32 with h |h
  ·exact h
  ·exact absurd (by rw[if_pos h]) h1
 by_cases h2:P3 (jID j w.NextID)=0∧N5 w (jID j w.NextID)=true
 ·have hw2:Wsm ⟨w.Settings,w.Bodies,w.Joints++ [jID j w.NextID],w.Contacts,w.Overlaps,IntKind.i64.wrap (w.NextID+1),w.Frame⟩:=C99 hw _ _ _ (by rw[List.length_append,List.length_singleton];omega)
  refine⟨(A84 ⟨w.Settings,w.Bodies,w.Joints++ [jID j w.NextID],w.Contacts,w.Overlaps,IntKind.i64.wrap (w.NextID+1),w.Frame⟩ [(jID j w.NextID).BodyA,(jID j w.NextID).BodyB],w.NextID,0),B3g hw2 _,?_⟩;refine P6 53 [(4,some (some 11)),(5,none),(6,none)] hm A1 Tryz.func76 rfl ?_;simp only[go_sem,go_sem_proc];rw[if_neg h1];refine A0 (A7c j) rfl ?_;simp only[go_sem,go_sem_proc];refine A0 (Y2 (jID j w.NextID)) rfl ?_;simp only[go_sem,go_sem_proc];refine A0 (A44 w (jID j w.NextID) hl) rfl ?_;simp only[go_sem,go_sem_proc];rw[if_neg (by simp[h2])];refine A05 ev_ B0 (A0n w hw) ?_;simp only[go_sem,go_sem_proc];refine⟨⟨by omega,by unfold maxLen;omega⟩,?_⟩;refine P2 (A8l ⟨w.Settings,w.Bodies,w.Joints++ [jID j w.NextID],w.Contacts,w.Overlaps,IntKind.i64.wrap (w.NextID+1),w.Frame⟩ [(jID j w.NextID).BodyA,(jID j w.NextID).BodyB] hw2 (by simp)) ?_;simp only[P9,go_sem,go_sem_proc]
  trace_state
  (repeat' (with_reducible apply And.intro)) <;> first |with_reducible rfl |rfl |exact B7 _ |exact C1 rfl |exact H3 _ rfl rfl rfl rfl |exact I5 (fun _=>rfl) |omega |(unfold maxLen;omega)
 ·refine⟨(zW,0,15),A2f,?_⟩;refine P6 53 [(4,some (some 11)),(5,none),(6,none)] hm A1 Tryz.func76 rfl ?_;simp only[go_sem,go_sem_proc];rw[if_neg h1];refine A0 (A7c j) rfl ?_;simp only[go_sem,go_sem_proc];refine A0 (Y2 (jID j w.NextID)) rfl ?_;simp only[go_sem,go_sem_proc];refine A0 (A44 w (jID j w.NextID) hl) rfl ?_;simp only[go_sem,go_sem_proc];rw[if_pos (by
   by_cases h4:P3 (jID j w.NextID)=0
   ·have h5:N5 w (jID j w.NextID)=false:=by
     cases h6:N5 w (jID j w.NextID)with
     |false=>rfl
     |true=>exact absurd ⟨h4,h6⟩ h2
    simp[h4,h5]
   ·simp[h4])]
  (repeat' (with_reducible apply And.intro)) <;> first |with_reducible rfl |rfl |exact B7 _ |exact C1 rfl |exact H3 _ rfl rfl rfl rfl |exact I5 (fun _=>rfl) |omega |(unfold maxLen;omega)
end Go.Abs
end
section
namespace Go.Abs
open Go.Proofs
open Api
theorem D59(b:Body)(x:Api.Input):(W6 b x).Fixtures=b.Fixtures:=by
 unfold W6 A2l X5 A0d A5n;dsimp only
 (repeat' split) <;> rfl
theorem A26 {α:Type}{z n n':Nat}{enc:α→List AV}{d:α}{l:List α}{i:Nat}{c:List AV}(a:α)(hi:i<l.length)(hc:c=enc a)(hn:n=l.length)(hn':n'=(l.set i a).length):J5 (.dsl z n ((D2 enc d l).set i c).g) (.dsl z n' (O6 enc d (l.set i a))):=by subst hn;subst hn';rw[List.length_set];exact A0p hi c hc
def A6f(j:Joint)(x:Api.Input):Joint:=
 if x.Kind=7 then⟨j.ID,j.Kind,j.BodyA,j.BodyB,x.Vec,j.AnchorB,j.Axis,j.ReferenceAngle,j.EnableLimit,j.Lower,j.Upper,j.EnableMotor,j.MotorSpeed,j.MaxForce,j.Softness,j.BreakForce,j.CollideConnected,j.Impulses⟩
 else⟨j.ID,j.Kind,j.BodyA,j.BodyB,j.AnchorA,j.AnchorB,j.Axis,j.ReferenceAngle,j.EnableLimit,j.Lower,j.Upper,j.EnableMotor,x.Value,j.MaxForce,j.Softness,j.BreakForce,j.CollideConnected,j.Impulses⟩
theorem B77(w:Api.World)(x:Api.Input)(hw:Wsm w): ∃r:Api.World×Int,Wsm r.1∧A5 Tryz.prog B8m [.agg w.enc, .agg x.enc] [] (.tup [.agg r.1.enc, .sc (.int .i64 r.2)]) []:=by
 have hl:=hw.1
 have hlt:=A0t w x.ID;by_cases h1:Q7 w x.ID<0
 ·refine⟨(zW,8),A2f,?_⟩;refine P6 44 [(4,some (some 11)),(5,none)] hm A1 Tryz.func80 rfl ?_;simp only[go_sem,go_sem_proc];refine A0 (U6 w x.ID hl) rfl ?_;simp only[go_sem,go_sem_proc];rw[if_pos h1]
  (repeat' (with_reducible apply And.intro)) <;> first |with_reducible rfl |rfl |exact B7 _ |exact C1 rfl |exact H3 _ rfl rfl rfl rfl |exact A0p (by assumption) _ rfl |exact A26 _ (by assumption) rfl rfl rfl |exact I5 (fun _=>rfl) |omega |(unfold maxLen;omega)
 obtain⟨i,hi⟩: ∃i:Nat,Q7 w x.ID=i:=⟨(Q7 w x.ID).toNat,by omega⟩;have hil:i<w.Bodies.length:=by omega
 have hf:=U6 w x.ID hl;rw[hi]at hf;by_cases h2:A3f (w.Bodies.getD i default) x=0
 ·have hbs:Body.sm (w.Bodies.getD i default):=hw.2.2.2.2.1 _ (D6 default hil)
  have hcs:Body.sm (W6 (w.Bodies.getD i default) x):=by unfold Body.sm;rw[D59];exact hbs
  have hw2:Wsm ⟨w.Settings,w.Bodies.set i (W6 (w.Bodies.getD i default) x),w.Joints,w.Contacts,w.Overlaps,w.NextID,w.Frame⟩:=E48 hw i _ hcs;refine⟨(A46 ⟨w.Settings,w.Bodies.set i (W6 (w.Bodies.getD i default) x),w.Joints,w.Contacts,w.Overlaps,w.NextID,w.Frame⟩ x.ID,0),A7o _ _ hw2,?_⟩;refine P6 44 [(4,some (some 11)),(5,none)] hm A1 Tryz.func80 rfl ?_;simp only[go_sem,go_sem_proc];refine A0 hf rfl ?_;simp only[go_sem,go_sem_proc];rw[if_neg (by omega)];refine⟨⟨by omega,by omega⟩,?_⟩;refine A0 (B0w (w.Bodies.getD i default) x) rfl ?_;simp only[go_sem,go_sem_proc];rw[if_neg (by rw[h2];simp)];refine A05 ev_ B0 (A0n w hw) ?_;simp only[go_sem,go_sem_proc];refine⟨⟨by omega,by omega⟩,?_⟩;refine A0 (C50 (w.Bodies.getD i default) x hbs) rfl ?_;simp only[go_sem,go_sem_proc];refine⟨⟨by omega,by omega⟩,?_⟩;refine P2 (A0z ⟨w.Settings,w.Bodies.set i (W6 (w.Bodies.getD i default) x),w.Joints,w.Contacts,w.Overlaps,w.NextID,w.Frame⟩ x.ID hw2) ?_;simp only[P9,go_sem,go_sem_proc]
  (repeat' (with_reducible apply And.intro)) <;> first |with_reducible rfl |rfl |exact B7 _ |exact C1 rfl |exact H3 _ rfl rfl rfl rfl |exact A0p (by assumption) _ rfl |exact A26 _ (by assumption) rfl rfl rfl |exact I5 (fun _=>rfl) |omega |(unfold maxLen;omega)
 ·refine⟨(zW,A3f (w.Bodies.getD i default) x),A2f,?_⟩;refine P6 44 [(4,some (some 11)),(5,none)] hm A1 Tryz.func80 rfl ?_;simp only[go_sem,go_sem_proc];refine A0 hf rfl ?_;simp only[go_sem,go_sem_proc];rw[if_neg (by omega)];refine⟨⟨by omega,by omega⟩,?_⟩;refine A0 (B0w (w.Bodies.getD i default) x) rfl ?_;simp only[go_sem,go_sem_proc];rw[if_pos (by simpa using h2)]
  (repeat' (with_reducible apply And.intro)) <;> first |with_reducible rfl |rfl |exact B7 _ |exact C1 rfl |exact H3 _ rfl rfl rfl rfl |exact A0p (by assumption) _ rfl |exact A26 _ (by assumption) rfl rfl rfl |exact I5 (fun _=>rfl) |omega |(unfold maxLen;omega)
theorem D89 {j:Joint}{x:Api.Input}(h:x.Kind=7):A6f j x=⟨j.ID,j.Kind,j.BodyA,j.BodyB,x.Vec,j.AnchorB,j.Axis,j.ReferenceAngle,j.EnableLimit,j.Lower,j.Upper,j.EnableMotor,j.MotorSpeed,j.MaxForce,j.Softness,j.BreakForce,j.CollideConnected,j.Impulses⟩:=if_pos h
theorem D9a {j:Joint}{x:Api.Input}(h: ¬x.Kind=7):A6f j x=⟨j.ID,j.Kind,j.BodyA,j.BodyB,j.AnchorA,j.AnchorB,j.Axis,j.ReferenceAngle,j.EnableLimit,j.Lower,j.Upper,j.EnableMotor,x.Value,j.MaxForce,j.Softness,j.BreakForce,j.CollideConnected,j.Impulses⟩:=if_neg h
theorem A8d(w:Api.World)(x:Api.Input)(hw:Wsm w): ∃r:Api.World×Int,Wsm r.1∧A5 Tryz.prog B5u [.agg w.enc, .agg x.enc] [] (.tup [.agg r.1.enc, .sc (.int .i64 r.2)]) []:=by
 have hl:=hw.2.1
 have hlt: -1≤A74 w x.ID∧A74 w x.ID<w.Joints.length:=C7f;by_cases h1:A74 w x.ID<0
 ·refine⟨(zW,8),A2f,?_⟩;refine P6 56 [(4,some (some 11)),(5,none)] hm A1 Tryz.func79 rfl ?_;simp only[go_sem,go_sem_proc];refine A0 (A3i w x.ID hl) rfl ?_;simp only[go_sem,go_sem_proc];rw[if_pos h1]
  (repeat' (with_reducible apply And.intro)) <;> first |with_reducible rfl |rfl |exact B7 _ |exact C1 rfl |exact H3 _ rfl rfl rfl rfl |exact A0p (by assumption) _ rfl |exact A26 _ (by assumption) rfl rfl rfl |exact I5 (fun _=>rfl) |omega |(unfold maxLen;omega)
 obtain⟨i,hi⟩: ∃i:Nat,A74 w x.ID=i:=⟨(A74 w x.ID).toNat,by omega⟩;have hil:i<w.Joints.length:=by omega
 have hf:=A3i w x.ID hl;rw[hi]at hf;by_cases h3:x.Kind=7
 ·
  by_cases h4:(w.Joints.getD i default).Kind≠5
  ·
   refine⟨(zW,10),A2f,?_⟩;refine P6 56 [(4,some (some 11)),(5,none)] hm A1 Tryz.func79 rfl ?_;simp only[go_sem,go_sem_proc];refine A0 hf rfl ?_;simp only[go_sem,go_sem_proc];rw[if_neg (by omega)];refine⟨⟨by omega,by omega⟩,?_⟩;rw[if_pos (by rw[h3];rfl)];rw[if_pos (by simpa[List.getD]using h4)]
   (repeat' (with_reducible apply And.intro)) <;> first |with_reducible rfl |rfl |exact B7 _ |exact C1 rfl |exact H3 _ rfl rfl rfl rfl |exact A0p (by assumption) _ rfl |exact A26 _ (by assumption) rfl rfl rfl |exact I5 (fun _=>rfl) |omega |(unfold maxLen;omega)
  by_cases h5:P3 (A6f (w.Joints.getD i default) x)≠0
  ·
   refine⟨(zW,6),A2f,?_⟩;refine P6 56 [(4,some (some 11)),(5,none)] hm A1 Tryz.func79 rfl ?_;simp only[go_sem,go_sem_proc];refine A0 hf rfl ?_;simp only[go_sem,go_sem_proc];rw[if_neg (by omega)];refine⟨⟨by omega,by omega⟩,?_⟩;rw[if_pos (by rw[h3];rfl)];rw[if_neg (by simpa[List.getD]using h4)];have hv:=Y2 (A6f (w.Joints.getD i default) x)
   have hj:=D89 (j:=w.Joints.getD i default) h3;generalize hjv:A6f (w.Joints.getD i default) x=jv at*;subst hj;refine A0 hv rfl ?_;simp only[go_sem,go_sem_proc];rw[if_pos (by simpa using h5)]
   (repeat' (with_reducible apply And.intro)) <;> first |with_reducible rfl |rfl |exact B7 _ |exact C1 rfl |exact H3 _ rfl rfl rfl rfl |exact A0p (by assumption) _ rfl |exact A26 _ (by assumption) rfl rfl rfl |exact I5 (fun _=>rfl) |omega |(unfold maxLen;omega)
  ·
   have hw2:Wsm ⟨w.Settings,w.Bodies,w.Joints.set i (A6f (w.Joints.getD i default) x),w.Contacts,w.Overlaps,w.NextID,w.Frame⟩:=C99 hw _ _ _ (by rw[List.length_set];exact hl);refine⟨(A46 (A46 ⟨w.Settings,w.Bodies,w.Joints.set i (A6f (w.Joints.getD i default) x),w.Contacts,w.Overlaps,w.NextID,w.Frame⟩ (w.Joints.getD i default).BodyA) (w.Joints.getD i default).BodyB,0),A7o _ _ (A7o _ _ hw2),?_⟩;refine P6 56 [(4,some (some 11)),(5,none)] hm A1 Tryz.func79 rfl ?_;simp only[go_sem,go_sem_proc];refine A0 hf rfl ?_;simp only[go_sem,go_sem_proc];rw[if_neg (by omega)];refine⟨⟨by omega,by omega⟩,?_⟩;rw[if_pos (by rw[h3];rfl)];rw[if_neg (by simpa[List.getD]using h4)];have hv:=Y2 (A6f (w.Joints.getD i default) x)
   have hj:=D89 (j:=w.Joints.getD i default) h3;generalize hjv:A6f (w.Joints.getD i default) x=jv at*;subst hj;refine A0 hv rfl ?_;simp only[go_sem,go_sem_proc];rw[if_neg (by simpa using h5)];refine A05 ev_ B0 (A0n w hw) ?_;simp only[go_sem,go_sem_proc];refine⟨⟨by omega,by omega⟩,?_⟩;refine P2 (A0z ⟨w.Settings,w.Bodies,w.Joints.set i ⟨(w.Joints.getD i default).ID,(w.Joints.getD i default).Kind,(w.Joints.getD i default).BodyA,(w.Joints.getD i default).BodyB,x.Vec,(w.Joints.getD i default).AnchorB,(w.Joints.getD i default).Axis,(w.Joints.getD i default).ReferenceAngle,(w.Joints.getD i default).EnableLimit,(w.Joints.getD i default).Lower,(w.Joints.getD i default).Upper,(w.Joints.getD i default).EnableMotor,(w.Joints.getD i default).MotorSpeed,(w.Joints.getD i default).MaxForce,(w.Joints.getD i default).Softness,(w.Joints.getD i default).BreakForce,(w.Joints.getD i default).CollideConnected,(w.Joints.getD i default).Impulses⟩,w.Contacts,w.Overlaps,w.NextID,w.Frame⟩ (w.Joints.getD i default).BodyA hw2) ?_;simp only[P9,go_sem,go_sem_proc];refine⟨A0p hil _ rfl,?_⟩;refine A0 (A0z (A46 ⟨w.Settings,w.Bodies,w.Joints.set i ⟨(w.Joints.getD i default).ID,(w.Joints.getD i default).Kind,(w.Joints.getD i default).BodyA,(w.Joints.getD i default).BodyB,x.Vec,(w.Joints.getD i default).AnchorB,(w.Joints.getD i default).Axis,(w.Joints.getD i default).ReferenceAngle,(w.Joints.getD i default).EnableLimit,(w.Joints.getD i default).Lower,(w.Joints.getD i default).Upper,(w.Joints.getD i default).EnableMotor,(w.Joints.getD i default).MotorSpeed,(w.Joints.getD i default).MaxForce,(w.Joints.getD i default).Softness,(w.Joints.getD i default).BreakForce,(w.Joints.getD i default).CollideConnected,(w.Joints.getD i default).Impulses⟩,w.Contacts,w.Overlaps,w.NextID,w.Frame⟩ (w.Joints.getD i default).BodyA) (w.Joints.getD i default).BodyB (A7o _ _ hw2)) rfl ?_;simp only[go_sem,go_sem_proc]
 ·
  by_cases h4: ¬(w.Joints.getD i default).EnableMotor=true
  ·
   refine⟨(zW,10),A2f,?_⟩;refine P6 56 [(4,some (some 11)),(5,none)] hm A1 Tryz.func79 rfl ?_;simp only[go_sem,go_sem_proc];refine A0 hf rfl ?_;simp only[go_sem,go_sem_proc];rw[if_neg (by omega)];refine⟨⟨by omega,by omega⟩,?_⟩;rw[if_neg (by simpa using h3)];rw[if_pos (by simpa[List.getD]using h4)]
   (repeat' (with_reducible apply And.intro)) <;> first |with_reducible rfl |rfl |exact B7 _ |exact C1 rfl |exact H3 _ rfl rfl rfl rfl |exact A0p (by assumption) _ rfl |exact A26 _ (by assumption) rfl rfl rfl |exact I5 (fun _=>rfl) |omega |(unfold maxLen;omega)
  by_cases h5:P3 (A6f (w.Joints.getD i default) x)≠0
  ·
   refine⟨(zW,6),A2f,?_⟩;refine P6 56 [(4,some (some 11)),(5,none)] hm A1 Tryz.func79 rfl ?_;simp only[go_sem,go_sem_proc];refine A0 hf rfl ?_;simp only[go_sem,go_sem_proc];rw[if_neg (by omega)];refine⟨⟨by omega,by omega⟩,?_⟩;rw[if_neg (by simpa using h3)];rw[if_neg (by simpa[List.getD]using h4)];have hv:=Y2 (A6f (w.Joints.getD i default) x)
   have hj:=D9a (j:=w.Joints.getD i default) h3;generalize hjv:A6f (w.Joints.getD i default) x=jv at*;subst hj;refine A0 hv rfl ?_;simp only[go_sem,go_sem_proc];rw[if_pos (by simpa using h5)]
   (repeat' (with_reducible apply And.intro)) <;> first |with_reducible rfl |rfl |exact B7 _ |exact C1 rfl |exact H3 _ rfl rfl rfl rfl |exact A0p (by assumption) _ rfl |exact A26 _ (by assumption) rfl rfl rfl |exact I5 (fun _=>rfl) |omega |(unfold maxLen;omega)
  ·
   have hw2:Wsm ⟨w.Settings,w.Bodies,w.Joints.set i (A6f (w.Joints.getD i default) x),w.Contacts,w.Overlaps,w.NextID,w.Frame⟩:=C99 hw _ _ _ (by rw[List.length_set];exact hl);refine⟨(A46 (A46 ⟨w.Settings,w.Bodies,w.Joints.set i (A6f (w.Joints.getD i default) x),w.Contacts,w.Overlaps,w.NextID,w.Frame⟩ (w.Joints.getD i default).BodyA) (w.Joints.getD i default).BodyB,0),A7o _ _ (A7o _ _ hw2),?_⟩;refine P6 56 [(4,some (some 11)),(5,none)] hm A1 Tryz.func79 rfl ?_;simp only[go_sem,go_sem_proc];refine A0 hf rfl ?_;simp only[go_sem,go_sem_proc];rw[if_neg (by omega)];refine⟨⟨by omega,by omega⟩,?_⟩;rw[if_neg (by simpa using h3)];rw[if_neg (by simpa[List.getD]using h4)];have hv:=Y2 (A6f (w.Joints.getD i default) x)
   have hj:=D9a (j:=w.Joints.getD i default) h3;generalize hjv:A6f (w.Joints.getD i default) x=jv at*;subst hj;refine A0 hv rfl ?_;simp only[go_sem,go_sem_proc];rw[if_neg (by simpa using h5)];refine A05 ev_ B0 (A0n w hw) ?_;simp only[go_sem,go_sem_proc];refine⟨⟨by omega,by omega⟩,?_⟩;refine P2 (A0z ⟨w.Settings,w.Bodies,w.Joints.set i ⟨(w.Joints.getD i default).ID,(w.Joints.getD i default).Kind,(w.Joints.getD i default).BodyA,(w.Joints.getD i default).BodyB,(w.Joints.getD i default).AnchorA,(w.Joints.getD i default).AnchorB,(w.Joints.getD i default).Axis,(w.Joints.getD i default).ReferenceAngle,(w.Joints.getD i default).EnableLimit,(w.Joints.getD i default).Lower,(w.Joints.getD i default).Upper,(w.Joints.getD i default).EnableMotor,x.Value,(w.Joints.getD i default).MaxForce,(w.Joints.getD i default).Softness,(w.Joints.getD i default).BreakForce,(w.Joints.getD i default).CollideConnected,(w.Joints.getD i default).Impulses⟩,w.Contacts,w.Overlaps,w.NextID,w.Frame⟩ (w.Joints.getD i default).BodyA hw2) ?_;simp only[P9,go_sem,go_sem_proc];refine⟨A0p hil _ rfl,?_⟩;refine A0 (A0z (A46 ⟨w.Settings,w.Bodies,w.Joints.set i ⟨(w.Joints.getD i default).ID,(w.Joints.getD i default).Kind,(w.Joints.getD i default).BodyA,(w.Joints.getD i default).BodyB,(w.Joints.getD i default).AnchorA,(w.Joints.getD i default).AnchorB,(w.Joints.getD i default).Axis,(w.Joints.getD i default).ReferenceAngle,(w.Joints.getD i default).EnableLimit,(w.Joints.getD i default).Lower,(w.Joints.getD i default).Upper,(w.Joints.getD i default).EnableMotor,x.Value,(w.Joints.getD i default).MaxForce,(w.Joints.getD i default).Softness,(w.Joints.getD i default).BreakForce,(w.Joints.getD i default).CollideConnected,(w.Joints.getD i default).Impulses⟩,w.Contacts,w.Overlaps,w.NextID,w.Frame⟩ (w.Joints.getD i default).BodyA) (w.Joints.getD i default).BodyB (A7o _ _ hw2)) rfl ?_;simp only[go_sem,go_sem_proc]
end Go.Abs
end
section
namespace Go.Abs
open Go.Proofs
open Api
theorem E0a(w:Api.World)(id:Int): -1≤A74 w id∧A74 w id<w.Joints.length:=C7f
theorem R0 {α:Type}{enc:α→List AV}{d:α}{l:List α}{i z m n':Nat}{q:Sq}{g:Nat→List AV}(hi:i<l.length)(hm:m=l.length-1)(hn':n'=(l.eraseIdx i).length)(hg: ∀k,g k=(((D2 enc d l).over i ⟨l.length-(i+1),fun k=>(D2 enc d l).g (i+1+k)⟩).over (l.length-1) q).g k):
  J5 (.dsl z m g) (.dsl z n' (O6 enc d (l.eraseIdx i))):=by
 subst hm;subst hn';rw[A1c];refine⟨rfl,by rw[List.length_eraseIdx_of_lt hi],fun k hk=> ?_⟩;rw[hg];have e:(((D2 enc d l).over i ⟨l.length-(i+1),fun k=>(D2 enc d l).g (i+1+k)⟩).over (l.length-1) q).g k=O6 enc d (l.eraseIdx i) k:=by
  show(if l.length-1≤k∧_ then _ else if i≤k∧k<i+(l.length-(i+1))then enc (l.getD (i+1+(k-i)) d)else enc (l.getD k d):List AV)=enc ((l.eraseIdx i).getD k d);rw[if_neg (by omega)];simp only[List.getD,List.getElem?_eraseIdx];by_cases h:k<i
  ·rw[if_neg (by omega),if_pos h]
  ·rw[if_pos (by omega),if_neg h,show i+1+(k-i)=k+1 by omega]
 rw[e];exact Q6 _
theorem B8c(w:Api.World)(id:Int)(hw:Wsm w): ∃r:Api.World×Int,Wsm r.1∧A5 Tryz.prog B8g [.agg w.enc, .sc (.int .i64 id)] [] (.tup [.agg r.1.enc, .sc (.int .i64 r.2)]) []:=by
 have hl:=hw.2.1
 have hlt:=E0a w id;by_cases h1:A74 w id<0
 ·refine⟨(zW,8),A2f,?_⟩;refine P6 35 [(4,some (some 11)),(5,none)] hm A1 Tryz.func78 rfl ?_;simp only[go_sem,go_sem_proc];refine A0 (A3i w id hl) rfl ?_;simp only[go_sem,go_sem_proc];rw[if_pos h1]
  (repeat' (with_reducible apply And.intro)) <;> first |with_reducible rfl |rfl |exact B7 _ |exact C1 rfl |exact H3 _ rfl rfl rfl rfl |exact I5 (fun _=>rfl) |exact R0 (by assumption) rfl rfl (fun _=>rfl) |omega |(unfold maxLen;omega)
 obtain⟨i,hi⟩: ∃i:Nat,A74 w id=i:=⟨(A74 w id).toNat,by omega⟩;have hil:i<w.Joints.length:=by omega
 have hw2:Wsm ⟨w.Settings,w.Bodies,w.Joints.eraseIdx i,w.Contacts,w.Overlaps,w.NextID,w.Frame⟩:=C99 hw _ _ _ (by rw[List.length_eraseIdx_of_lt hil];omega);refine⟨(A84 ⟨w.Settings,w.Bodies,w.Joints.eraseIdx i,w.Contacts,w.Overlaps,w.NextID,w.Frame⟩ [(w.Joints.getD i default).BodyA,(w.Joints.getD i default).BodyB],0),B3g hw2 _,?_⟩;refine P6 35 [(4,some (some 11)),(5,none)] hm A1 Tryz.func78 rfl ?_;simp only[go_sem,go_sem_proc];refine A0 (A3i w id hl) rfl ?_;simp only[go_sem,go_sem_proc];rw[if_neg h1];refine A05 ev_ B0 (A0n w hw) ?_;simp only[go_sem,go_sem_proc,hi];refine⟨⟨by omega,by omega⟩,?_⟩;rw[show IntKind.i64.wrap ((i:Int)+1)=((i+1:Nat):Int)by rw[IntKind.wrap_i64];omega];refine I4 [true,true,true] [(1,257)] (B5m (D2 Joint.enc default w.Joints) i hil hl) (by simp) (by simp) (by simp) (by simp[go_sem]) ?_;simp only[go_sem,go_sem_proc];refine P2 (A8l ⟨w.Settings,w.Bodies,w.Joints.eraseIdx i,w.Contacts,w.Overlaps,w.NextID,w.Frame⟩ [(w.Joints.getD i default).BodyA,(w.Joints.getD i default).BodyB] hw2 (by simp)) ?_;simp only[P9,go_sem,go_sem_proc]
 trace_state
 (repeat' (with_reducible apply And.intro)) <;> first |with_reducible rfl |rfl |exact B7 _ |exact C1 rfl |exact H3 _ rfl rfl rfl rfl |exact I5 (fun _=>rfl) |exact R0 (by assumption) rfl rfl (fun _=>rfl) |omega |(unfold maxLen;omega)
end Go.Abs
end
section
namespace Go.Abs
open Go.Proofs
open Api
theorem C7v(id:Int)(k:B2):A5 Tryz.prog Z3 [.agg k.enc, .fptr [.sc (.int .i64 id)]] [] (.sc (.bool (k.BodyA==id||k.BodyB==id))) []:=by refine en1 hm A1 Tryz.func147 rfl rfl ?_;simp only[go_sem,go_sem_proc]
theorem E4u(id:Int)(j:Joint):A5 Tryz.prog A7d [.agg j.enc, .fptr [.sc (.int .i64 id)]] [] (.sc (.bool (P1 j id))) []:=by refine en1 hm A1 Tryz.func152 rfl rfl ?_;simp only[go_sem,go_sem_proc];refine A0 (B1r j id) rfl ?_;simp only[go_sem,go_sem_proc]
theorem E32(id:Int)(c:D5):A5 Tryz.prog A7p [.agg c.enc, .fptr [.fn (.func Z3) [] [.fptr [.sc (.int .i64 id)]]]] [] (.sc (.bool (c.Key.BodyA==id||c.Key.BodyB==id))) []:=by refine en1 hm A1 Tryz.func154 rfl rfl ?_;simp only[go_sem,go_sem_proc];refine A19 (C7v id c.Key) (by simp[C9,AV.ids,go_sem]) rfl ?_;simp only[go_sem,go_sem_proc]
theorem D6m {α:Type}{enc:α→List AV}{d:α}{p:α→Bool}{l:List α}{zl:List AV}:(dfQ enc d p l zl).n=l.length:=(A8x (d:=d) (p:=p) (l:=l) l.length (Nat.le_refl _)).2.1
def nbJ(l:List Joint)(id:Int)(k:Nat)(s:List Int):List Int:=if P1 (l.getD k default) id=true then s++ [A2t (l.getD k default).BodyA (l.getD k default).BodyB id]else s
def A2c(id:Int)(k:B2):Bool:=k.BodyA==id||k.BodyB==id
def nbC(l:List D5)(id:Int)(k:Nat)(s:List Int):List Int:=if A2c id (l.getD k default).Key=true then s++ [A2t (l.getD k default).Key.BodyA (l.getD k default).Key.BodyB id]else s
theorem C6k(l:List Joint)(id:Int)(s:List Int): ∀n,(itr (nbJ l id) n s).length≤s.length+n
 |0=>Nat.le_refl _
 |n+1=>by
  have h:=C6k l id s n;rw[show itr (nbJ l id) (n+1) s=nbJ l id n (itr (nbJ l id) n s)from H7 ..];generalize itr (nbJ l id) n s=v at h⊢;unfold nbJ;split
  ·rw[List.length_append,List.length_singleton];omega
  ·omega
theorem C60(l:List D5)(id:Int)(s:List Int): ∀n,(itr (nbC l id) n s).length≤s.length+n
 |0=>Nat.le_refl _
 |n+1=>by
  have h:=C60 l id s n;rw[show itr (nbC l id) (n+1) s=nbC l id n (itr (nbC l id) n s)from H7 ..];generalize itr (nbC l id) n s=v at h⊢;unfold nbC;split
  ·rw[List.length_append,List.length_singleton];omega
  ·omega
def D54(w:Api.World):List (Nat×A8):= [(48, .box [.sc (.int .i64 w.Settings.TimeStep), .sc (.int .i64 w.Settings.Gravity.X), .sc (.int .i64 w.Settings.Gravity.Y), .sc (.int .i64 w.Settings.Iterations), .sc (.int .i64 w.Settings.SleepSteps), .sl 336 0 w.Bodies.length w.Bodies.length, .sl 337 0 w.Joints.length w.Joints.length, .sl 338 0 w.Contacts.length w.Contacts.length, .sl 339 0 w.Overlaps.length w.Overlaps.length, .sc (.int .i64 w.NextID), .sc (.int .i64 w.Frame)]),(80, .box Q0),(336, .arr 20 (D2 Body.enc default w.Bodies)),(337, .arr 24 (D2 Joint.enc default w.Joints)),(338, .arr 7 (D2 D5.enc default w.Contacts)),(339, .arr 4 (D2 B2.enc default w.Overlaps))]
def B8s(w:Api.World)(id:Int)(nb:List Int):List (Nat×A8):=(1, .arr 1 (D2 K4 0 nb))::(D54 w++ [(144, .box [.fn (.func Z3) [] [.fptr [.sc (.int .i64 id)]]])])
attribute [go_sem] D54 B8s
theorem B9g(w:Api.World)(id:Int)(hw:Wsm w): ∃r:Api.World×Int,Wsm r.1∧A5 Tryz.prog B83 [.agg w.enc, .sc (.int .i64 id)] [] (.tup [.agg r.1.enc, .sc (.int .i64 r.2)]) []:=by
 have hl:=hw.1
 have hlJ:=hw.2.1
 have hlC:=hw.2.2.1
 have hnJ:=C6k w.Joints id [] w.Joints.length;simp only[List.length_nil]at hnJ;have hlt:=A0t w id;by_cases h1:Q7 w id<0
 ·refine⟨(zW,8),A2f,?_⟩;refine P6 90 [(4,some (some 11)),(5,none)] hm A1 Tryz.func77 rfl ?_;simp only[go_sem,go_sem_proc];refine A0 (U6 w id hl) rfl ?_;simp only[go_sem,go_sem_proc];rw[if_pos h1]
  (repeat' (with_reducible apply And.intro)) <;> first |with_reducible rfl |rfl |exact B7 _ |exact C1 rfl |exact H3 _ rfl rfl rfl rfl |exact I5 (fun _=>rfl) |exact R0 (by assumption) rfl rfl (fun _=>rfl) |omega |(unfold maxLen;omega) |(rw[IntKind.wrap_i64];omega) |(simp;done)
 obtain⟨i,hi⟩: ∃i:Nat,Q7 w id=i:=⟨(Q7 w id).toNat,by omega⟩;have hil:i<w.Bodies.length:=by omega
 have hf:=U6 w id hl;rw[hi]at hf;have hw2:Wsm ⟨w.Settings,w.Bodies.eraseIdx i,w.Joints.filter (fun j=> !P1 j id),w.Contacts.filter (fun c=> !A2c id c.Key),w.Overlaps.filter (fun k=> !A2c id k),w.NextID,w.Frame⟩:=by
  obtain⟨a1,a2,a3,a4,a5,a6⟩:=hw;have e1:=List.length_filter_le (fun j=> !P1 j id) w.Joints
  have e2:=List.length_filter_le (fun c:D5=> !A2c id c.Key) w.Contacts
  have e3:=List.length_filter_le (fun k=> !A2c id k) w.Overlaps;exact⟨by show(w.Bodies.eraseIdx i).length≤_;rw[List.length_eraseIdx_of_lt hil];omega,Nat.le_trans e1 a2,Nat.le_trans e2 a3,Nat.le_trans e3 a4,fun b hb=>a5 b (List.mem_of_mem_eraseIdx hb),fun c hc=>a6 c (List.mem_filter.1 hc).1⟩
 refine⟨(A84 ⟨w.Settings,w.Bodies.eraseIdx i,w.Joints.filter (fun j=> !P1 j id),w.Contacts.filter (fun c=> !A2c id c.Key),w.Overlaps.filter (fun k=> !A2c id k),w.NextID,w.Frame⟩ (itr (nbC w.Contacts id) w.Contacts.length (itr (nbJ w.Joints id) w.Joints.length [])),0),B3g hw2 _,?_⟩;refine E7o 90 [(4,some (some 11)),(5,none)] hm A1 Tryz.func77 rfl ?_;refine L6 [(2, .share, .ptr 48 0 0 1),(3, .share, .ptr 64 0 0 1),(4, .share, .ptr 80 0 0 1)] [(48, .box w.enc),(64, .box [.sc (.int .i64 id)]),(80, .box Q0)] (O4 hm ?_) ?_
 ·simp only[go_sem,go_sem_proc];refine B3 [] [] (by simp[go_sem]) (by simp[A9,go_sem]) (by simp[go_sem]) ?_;simp only[go_sem,go_sem_proc,Q0]
  all_goals((repeat' (with_reducible apply And.intro)) <;> first |with_reducible rfl |rfl |exact B7 _ |exact C1 rfl |exact H3 _ rfl rfl rfl rfl |exact I5 (fun _=>rfl) |exact R0 (by assumption) rfl rfl (fun _=>rfl) |omega |(unfold maxLen;omega) |(rw[IntKind.wrap_i64];omega) |(simp;done))
 refine L6 [(2, .share, .ptr 48 0 0 1),(3, .share, .ptr 64 0 0 1),(4, .share, .ptr 80 0 0 1),(6, .share, .sc (.int .i64 (i:Nat)))] [(48, .box w.enc),(64, .box [.sc (.int .i64 id)]),(80, .box Q0)] (O4 hm ?_) ?_
 ·simp only[go_sem,go_sem_proc];refine A0 hf rfl ?_;simp only[go_sem,go_sem_proc];refine B3 [] [] (by simp[go_sem]) (by simp[A9,go_sem]) (by simp[go_sem]) ?_;simp only[go_sem,go_sem_proc,Q0]
  all_goals((repeat' (with_reducible apply And.intro)) <;> first |with_reducible rfl |rfl |exact B7 _ |exact C1 rfl |exact H3 _ rfl rfl rfl rfl |exact I5 (fun _=>rfl) |exact R0 (by assumption) rfl rfl (fun _=>rfl) |omega |(unfold maxLen;omega) |(rw[IntKind.wrap_i64];omega) |(simp;done))
 refine L6 [(2, .share, .ptr 48 0 0 1),(3, .share, .ptr 64 0 0 1),(4, .share, .ptr 80 0 0 1),(6, .share, .sc (.int .i64 (i:Nat)))] [(48, .box w.enc),(64, .box [.sc (.int .i64 id)]),(80, .box Q0)] (O4 hm ?_) ?_
 ·simp only[go_sem,go_sem_proc];rw[if_neg (by omega)];refine B3 [] [] (by simp[go_sem]) (by simp[A9,go_sem]) (by simp[go_sem]) ?_;simp only[go_sem,go_sem_proc,Q0]
  all_goals((repeat' (with_reducible apply And.intro)) <;> first |with_reducible rfl |rfl |exact B7 _ |exact C1 rfl |exact H3 _ rfl rfl rfl rfl |exact I5 (fun _=>rfl) |exact R0 (by assumption) rfl rfl (fun _=>rfl) |omega |(unfold maxLen;omega) |(rw[IntKind.wrap_i64];omega) |(simp;done))
 refine L6 [(2, .share, .ptr 48 0 0 1),(3, .thaw, .fptr [.sc (.int .i64 id)]),(4, .share, .ptr 80 0 0 1),(6, .share, .sc (.int .i64 (i:Nat)))] (D54 w) (O4 hm ?_) ?_
 ·simp only[go_sem,go_sem_proc];refine A05 ev_ B0 (A0n w hw) ?_;simp only[go_sem,go_sem_proc];refine B3 [] [] (by simp[go_sem]) (by simp[A9,go_sem]) (by simp[go_sem]) ?_;simp only[go_sem,go_sem_proc,Q0,Q4]
  all_goals((repeat' (with_reducible apply And.intro)) <;> first |with_reducible rfl |rfl |exact B7 _ |exact C1 rfl |exact H3 _ rfl rfl rfl rfl |exact I5 (fun _=>rfl) |exact R0 (by assumption) rfl rfl (fun _=>rfl) |omega |(unfold maxLen;omega) |(rw[IntKind.wrap_i64];omega) |(simp;done))
 refine L6 [(2, .share, .ptr 48 0 0 1),(3, .share, .fptr [.sc (.int .i64 id)]),(4, .share, .ptr 80 0 0 1),(6, .share, .sc (.int .i64 (i:Nat))),(7, .share, .sc (.slice none 0 0))] (D54 w) (O4 hm ?_) ?_
 ·simp only[go_sem,go_sem_proc];refine B3 [] [] (by simp[go_sem]) (by simp[A9,go_sem]) (by simp[go_sem]) ?_;simp only[go_sem,go_sem_proc,Q0]
  all_goals((repeat' (with_reducible apply And.intro)) <;> first |with_reducible rfl |rfl |exact B7 _ |exact C1 rfl |exact H3 _ rfl rfl rfl rfl |exact I5 (fun _=>rfl) |exact R0 (by assumption) rfl rfl (fun _=>rfl) |omega |(unfold maxLen;omega) |(rw[IntKind.wrap_i64];omega) |(simp;done))
 refine L6 [(2, .share, .ptr 48 0 0 1),(3, .share, .fptr [.sc (.int .i64 id)]),(4, .share, .ptr 80 0 0 1),(6, .share, .sc (.int .i64 (i:Nat))),(7, .adopt, .sl 1 0 0 0),(8, .share, .ptr 144 0 0 1)] (B8s w id []) (O4 hm ?_) ?_
 ·simp only[go_sem,go_sem_proc];refine B3 [] [1] (by simp[go_sem]) (by simp[A9,go_sem]) (by simp[go_sem]) ?_;simp only[go_sem,go_sem_proc,Q0]
  all_goals((repeat' (with_reducible apply And.intro)) <;> first |with_reducible rfl |rfl |exact B7 _ |exact C1 rfl |exact H3 _ rfl rfl rfl rfl |exact I5 (fun _=>rfl) |exact R0 (by assumption) rfl rfl (fun _=>rfl) |omega |(unfold maxLen;omega) |(rw[IntKind.wrap_i64];omega) |(simp;done))
 refine L6 [(2, .share, .ptr 48 0 0 1),(3, .share, .fptr [.sc (.int .i64 id)]),(4, .share, .ptr 80 0 0 1),(6, .share, .sc (.int .i64 (i:Nat))),(7, .share, .sl 1 0 (itr (nbJ w.Joints id) w.Joints.length []).length (itr (nbJ w.Joints id) w.Joints.length []).length),(8, .share, .ptr 144 0 0 1)] (B8s w id (itr (nbJ w.Joints id) w.Joints.length [])) (L6 [(2, .share, .ptr 48 0 0 1),(3, .share, .fptr [.sc (.int .i64 id)]),(4, .share, .ptr 80 0 0 1),(6, .share, .sc (.int .i64 (i:Nat))),(7, .share, .sl 1 0 (itr (nbJ w.Joints id) 0 []).length (itr (nbJ w.Joints id) 0 []).length),(8, .share, .ptr 144 0 0 1),(23, .share, .sl 337 0 w.Joints.length w.Joints.length),(24, .share, .sc (.int .i64 w.Joints.length)),(25, .share, .sc (.int .i64 (0:Nat)))] (B8s w id (itr (nbJ w.Joints id) 0 [])) (O4 hm ?_) (C8o ?_)) ?_
 ·simp only[go_sem,go_sem_proc,B6];refine B3 [] [] (by simp[go_sem]) (by simp[A9,go_sem]) (by simp[go_sem]) ?_;simp only[go_sem,go_sem_proc,Q0]
  all_goals((repeat' (with_reducible apply And.intro)) <;> first |with_reducible rfl |rfl |exact B7 _ |exact C1 rfl |exact H3 _ rfl rfl rfl rfl |exact I5 (fun _=>rfl) |exact R0 (by assumption) rfl rfl (fun _=>rfl) |omega |(unfold maxLen;omega) |(rw[IntKind.wrap_i64];omega) |(simp;done))
 ·refine C6 hm (ι:= {k:Nat // k≤w.Joints.length}) (fun k=> [(2, .share, .ptr 48 0 0 1),(3, .share, .fptr [.sc (.int .i64 id)]),(4, .share, .ptr 80 0 0 1),(6, .share, .sc (.int .i64 (i:Nat))),(7, .share, .sl 1 0 (itr (nbJ w.Joints id) k.1 []).length (itr (nbJ w.Joints id) k.1 []).length),(8, .share, .ptr 144 0 0 1),(23, .share, .sl 337 0 w.Joints.length w.Joints.length),(24, .share, .sc (.int .i64 w.Joints.length)),(25, .share, .sc (.int .i64 (k.1:Nat)))]) (fun k=>B8s w id (itr (nbJ w.Joints id) k.1 [])) (fun k=>w.Joints.length-k.1) ⟨0,Nat.zero_le _⟩ ?_ ?_
  ·refine B3 [] [] (by simp[go_sem]) (by simp[A9,go_sem]) (by simp[go_sem]) ?_;simp only[go_sem,go_sem_proc,Q0]
   all_goals((repeat' (with_reducible apply And.intro)) <;> first |with_reducible rfl |rfl |exact B7 _ |exact C1 rfl |exact H3 _ rfl rfl rfl rfl |exact I5 (fun _=>rfl) |exact R0 (by assumption) rfl rfl (fun _=>rfl) |omega |(unfold maxLen;omega) |(rw[IntKind.wrap_i64];omega) |(simp;done))
  ·rintro⟨k,hk⟩;dsimp only;have hnext:itr (nbJ w.Joints id) (k+1) []=nbJ w.Joints id k (itr (nbJ w.Joints id) k []):=H7 ..
   have hvl:=C6k w.Joints id [] k
   (try simp only[List.length_nil]at hvl)
   have hfin:w.Joints.length≤k→(itr (nbJ w.Joints id) k [])=(itr (nbJ w.Joints id) w.Joints.length []):=fun h=>by rw[show k=w.Joints.length by omega]
   generalize(itr (nbJ w.Joints id) k [])=v at hnext hvl hfin⊢;simp only[go_sem,go_sem_proc,Q0];split
   ·rename_i hlt;have hlt:k<w.Joints.length:=by omega
    refine⟨⟨by omega,by omega⟩,?_⟩;refine A0 (B1r (w.Joints.getD k default) id) rfl ?_;simp only[go_sem,go_sem_proc];by_cases hp:P1 (w.Joints.getD k default) id=true
    ·rw[if_pos hp];refine A0 (B7n (w.Joints.getD k default).BodyA (w.Joints.getD k default).BodyB id) rfl ?_;simp only[go_sem,go_sem_proc];have hn:itr (nbJ w.Joints id) (k+1) []=v++ [A2t (w.Joints.getD k default).BodyA (w.Joints.getD k default).BodyB id]:=by rw[hnext];unfold nbJ;rw[if_pos hp]
     refine⟨⟨by omega,by unfold maxLen;omega⟩,?_⟩;refine B8 ⟨k+1,hlt⟩ (by show w.Joints.length-(k+1)<w.Joints.length-k;omega) ?_;simp only[hn];refine B3 [] [] (by simp[go_sem]) (by simp[A9,go_sem]) (by simp[go_sem]) ?_;simp only[go_sem,go_sem_proc,Q0]
     all_goals((repeat' (with_reducible apply And.intro)) <;> first |with_reducible rfl |rfl |exact B7 _ |exact C1 rfl |exact H3 _ rfl rfl rfl rfl |exact I5 (fun _=>rfl) |exact R0 (by assumption) rfl rfl (fun _=>rfl) |omega |(unfold maxLen;omega) |(rw[IntKind.wrap_i64];omega) |(simp;done))
    ·rw[if_neg hp];have hn:itr (nbJ w.Joints id) (k+1) []=v:=by rw[hnext];unfold nbJ;rw[if_neg hp]
     refine B8 ⟨k+1,hlt⟩ (by show w.Joints.length-(k+1)<w.Joints.length-k;omega) ?_;simp only[hn];refine B3 [] [] (by simp[go_sem]) (by simp[A9,go_sem]) (by simp[go_sem]) ?_;simp only[go_sem,go_sem_proc,Q0]
     all_goals((repeat' (with_reducible apply And.intro)) <;> first |with_reducible rfl |rfl |exact B7 _ |exact C1 rfl |exact H3 _ rfl rfl rfl rfl |exact I5 (fun _=>rfl) |exact R0 (by assumption) rfl rfl (fun _=>rfl) |omega |(unfold maxLen;omega) |(rw[IntKind.wrap_i64];omega) |(simp;done))
   ·rename_i hge;rw[←hfin (by omega)];refine B3 [] [] (by simp[go_sem]) (by simp[A9,go_sem]) (by simp[go_sem]) ?_;simp only[go_sem,go_sem_proc,Q0]
    all_goals((repeat' (with_reducible apply And.intro)) <;> first |with_reducible rfl |rfl |exact B7 _ |exact C1 rfl |exact H3 _ rfl rfl rfl rfl |exact I5 (fun _=>rfl) |exact R0 (by assumption) rfl rfl (fun _=>rfl) |omega |(unfold maxLen;omega) |(rw[IntKind.wrap_i64];omega) |(simp;done))
 refine L6 [(2, .share, .ptr 48 0 0 1),(3, .share, .fptr [.sc (.int .i64 id)]),(4, .share, .ptr 80 0 0 1),(6, .share, .sc (.int .i64 (i:Nat))),(7, .share, .sl 1 0 (itr (nbC w.Contacts id) w.Contacts.length (itr (nbJ w.Joints id) w.Joints.length [])).length (itr (nbC w.Contacts id) w.Contacts.length (itr (nbJ w.Joints id) w.Joints.length [])).length),(8, .share, .ptr 144 0 0 1)] (B8s w id (itr (nbC w.Contacts id) w.Contacts.length (itr (nbJ w.Joints id) w.Joints.length []))) (L6 [(2, .share, .ptr 48 0 0 1),(3, .share, .fptr [.sc (.int .i64 id)]),(4, .share, .ptr 80 0 0 1),(6, .share, .sc (.int .i64 (i:Nat))),(7, .share, .sl 1 0 (itr (nbC w.Contacts id) 0 (itr (nbJ w.Joints id) w.Joints.length [])).length (itr (nbC w.Contacts id) 0 (itr (nbJ w.Joints id) w.Joints.length [])).length),(8, .share, .ptr 144 0 0 1),(43, .share, .sl 338 0 w.Contacts.length w.Contacts.length),(44, .share, .sc (.int .i64 w.Contacts.length)),(45, .share, .sc (.int .i64 (0:Nat)))] (B8s w id (itr (nbC w.Contacts id) 0 (itr (nbJ w.Joints id) w.Joints.length []))) (O4 hm ?_) (C8o ?_)) ?_
 ·simp only[go_sem,go_sem_proc,B6];refine B3 [] [] (by simp[go_sem]) (by simp[A9,go_sem]) (by simp[go_sem]) ?_;simp only[go_sem,go_sem_proc,Q0]
  all_goals((repeat' (with_reducible apply And.intro)) <;> first |with_reducible rfl |rfl |exact B7 _ |exact C1 rfl |exact H3 _ rfl rfl rfl rfl |exact I5 (fun _=>rfl) |exact R0 (by assumption) rfl rfl (fun _=>rfl) |omega |(unfold maxLen;omega) |(rw[IntKind.wrap_i64];omega) |(simp;done))
 ·refine C6 hm (ι:= {k:Nat // k≤w.Contacts.length}) (fun k=> [(2, .share, .ptr 48 0 0 1),(3, .share, .fptr [.sc (.int .i64 id)]),(4, .share, .ptr 80 0 0 1),(6, .share, .sc (.int .i64 (i:Nat))),(7, .share, .sl 1 0 (itr (nbC w.Contacts id) k.1 (itr (nbJ w.Joints id) w.Joints.length [])).length (itr (nbC w.Contacts id) k.1 (itr (nbJ w.Joints id) w.Joints.length [])).length),(8, .share, .ptr 144 0 0 1),(43, .share, .sl 338 0 w.Contacts.length w.Contacts.length),(44, .share, .sc (.int .i64 w.Contacts.length)),(45, .share, .sc (.int .i64 (k.1:Nat)))]) (fun k=>B8s w id (itr (nbC w.Contacts id) k.1 (itr (nbJ w.Joints id) w.Joints.length []))) (fun k=>w.Contacts.length-k.1) ⟨0,Nat.zero_le _⟩ ?_ ?_
  ·refine B3 [] [] (by simp[go_sem]) (by simp[A9,go_sem]) (by simp[go_sem]) ?_;simp only[go_sem,go_sem_proc,Q0]
   all_goals((repeat' (with_reducible apply And.intro)) <;> first |with_reducible rfl |rfl |exact B7 _ |exact C1 rfl |exact H3 _ rfl rfl rfl rfl |exact I5 (fun _=>rfl) |exact R0 (by assumption) rfl rfl (fun _=>rfl) |omega |(unfold maxLen;omega) |(rw[IntKind.wrap_i64];omega) |(simp;done))
  ·rintro⟨k,hk⟩;dsimp only;have hnext:itr (nbC w.Contacts id) (k+1) (itr (nbJ w.Joints id) w.Joints.length [])=nbC w.Contacts id k (itr (nbC w.Contacts id) k (itr (nbJ w.Joints id) w.Joints.length [])):=H7 ..
   have hvl:=C60 w.Contacts id (itr (nbJ w.Joints id) w.Joints.length []) k
   (try simp only[List.length_nil]at hvl)
   have hfin:w.Contacts.length≤k→(itr (nbC w.Contacts id) k (itr (nbJ w.Joints id) w.Joints.length []))=(itr (nbC w.Contacts id) w.Contacts.length (itr (nbJ w.Joints id) w.Joints.length [])):=fun h=>by rw[show k=w.Contacts.length by omega]
   generalize(itr (nbC w.Contacts id) k (itr (nbJ w.Joints id) w.Joints.length []))=v at hnext hvl hfin⊢;simp only[go_sem,go_sem_proc,Q0];split
   ·rename_i hlt;have hlt:k<w.Contacts.length:=by omega
    refine⟨⟨by omega,by omega⟩,?_⟩;refine A0 (C7v id (w.Contacts.getD k default).Key) rfl ?_;simp only[go_sem,go_sem_proc];by_cases hp:((w.Contacts.getD k default).Key.BodyA==id||(w.Contacts.getD k default).Key.BodyB==id)=true
    ·rw[if_pos hp];refine A0 (B7n (w.Contacts.getD k default).Key.BodyA (w.Contacts.getD k default).Key.BodyB id) rfl ?_;simp only[go_sem,go_sem_proc];have hn:itr (nbC w.Contacts id) (k+1) (itr (nbJ w.Joints id) w.Joints.length [])=v++ [A2t (w.Contacts.getD k default).Key.BodyA (w.Contacts.getD k default).Key.BodyB id]:=by rw[hnext];unfold nbC;rw[if_pos (show A2c id (w.Contacts.getD k default).Key=true from hp)]
     refine⟨⟨by omega,by unfold maxLen;omega⟩,?_⟩;refine B8 ⟨k+1,hlt⟩ (by show w.Contacts.length-(k+1)<w.Contacts.length-k;omega) ?_;simp only[hn];refine B3 [] [] (by simp[go_sem]) (by simp[A9,go_sem]) (by simp[go_sem]) ?_;simp only[go_sem,go_sem_proc,Q0]
     all_goals((repeat' (with_reducible apply And.intro)) <;> first |with_reducible rfl |rfl |exact B7 _ |exact C1 rfl |exact H3 _ rfl rfl rfl rfl |exact I5 (fun _=>rfl) |exact R0 (by assumption) rfl rfl (fun _=>rfl) |omega |(unfold maxLen;omega) |(rw[IntKind.wrap_i64];omega) |(simp;done))
    ·rw[if_neg hp];have hn:itr (nbC w.Contacts id) (k+1) (itr (nbJ w.Joints id) w.Joints.length [])=v:=by rw[hnext];unfold nbC;rw[if_neg (show ¬A2c id (w.Contacts.getD k default).Key=true from hp)]
     refine B8 ⟨k+1,hlt⟩ (by show w.Contacts.length-(k+1)<w.Contacts.length-k;omega) ?_;simp only[hn];refine B3 [] [] (by simp[go_sem]) (by simp[A9,go_sem]) (by simp[go_sem]) ?_;simp only[go_sem,go_sem_proc,Q0]
     all_goals((repeat' (with_reducible apply And.intro)) <;> first |with_reducible rfl |rfl |exact B7 _ |exact C1 rfl |exact H3 _ rfl rfl rfl rfl |exact I5 (fun _=>rfl) |exact R0 (by assumption) rfl rfl (fun _=>rfl) |omega |(unfold maxLen;omega) |(rw[IntKind.wrap_i64];omega) |(simp;done))
   ·rename_i hge;rw[←hfin (by omega)];refine B3 [] [] (by simp[go_sem]) (by simp[A9,go_sem]) (by simp[go_sem]) ?_;simp only[go_sem,go_sem_proc,Q0]
    all_goals((repeat' (with_reducible apply And.intro)) <;> first |with_reducible rfl |rfl |exact B7 _ |exact C1 rfl |exact H3 _ rfl rfl rfl rfl |exact I5 (fun _=>rfl) |exact R0 (by assumption) rfl rfl (fun _=>rfl) |omega |(unfold maxLen;omega) |(rw[IntKind.wrap_i64];omega) |(simp;done))
 have hnC:=C60 w.Contacts id (itr (nbJ w.Joints id) w.Joints.length []) w.Contacts.length;generalize itr (nbC w.Contacts id) w.Contacts.length (itr (nbJ w.Joints id) w.Joints.length [])=nb at hnC⊢;have hnb:nb.length≤4194304:=by omega
 refine O4 hm ?_;simp only[go_sem,go_sem_proc,Q0];rw[show IntKind.i64.wrap ((i:Int)+1)=((i+1:Nat):Int)by rw[IntKind.wrap_i64];omega];refine I4 [true,true,true] [(1,336)] (B6e (D2 Body.enc default w.Bodies) i hil hl) (by simp) (by simp) (by simp) (by simp[go_sem]) ?_;simp only[go_sem,go_sem_proc];refine I4 [true,true] [(1,337)] (B1j w.Joints A7d [] [.fptr [.sc (.int .i64 id)]] (fun j=>P1 j id) (by omega) rfl rfl (fun j _=>E4u id j)) (by simp) (by simp) (by simp) (by simp[go_sem]) ?_;simp only[go_sem,go_sem_proc];refine I4 [true,false] [(1,338)] (A92 w.Contacts A7p [] [.fptr [.fn (.func Z3) [] [.fptr [.sc (.int .i64 id)]]]] (fun c=>A2c id c.Key) (by omega) rfl rfl (fun c _=>E32 id c)) (by simp) (by simp) (by simp) (by simp[go_sem]) ?_;simp only[go_sem,go_sem_proc,Q4];refine I4 [true,true] [(1,339)] (A95 w.Overlaps Z3 [] [.fptr [.sc (.int .i64 id)]] (fun k=>A2c id k) (by have:=hw.2.2.2.1;omega) rfl rfl (fun k _=>C7v id k)) (by simp) (by simp) (by simp) (by simp[go_sem]) ?_;simp only[go_sem,go_sem_proc,Q4];refine P2 (A8l ⟨w.Settings,w.Bodies.eraseIdx i,w.Joints.filter (fun j=> !P1 j id),w.Contacts.filter (fun c=> !A2c id c.Key),w.Overlaps.filter (fun k=> !A2c id k),w.NextID,w.Frame⟩ nb hw2 hnb) ?_;simp only[P9,go_sem,go_sem_proc];exact⟨⟨rfl,D6m.symm,D6m.symm,D6m.symm⟩,R0 hil rfl rfl fun _=>rfl,D1q rfl fun _=>rfl,D1q rfl fun _=>rfl,D1q rfl fun _=>rfl⟩
end Go.Abs
end
section
namespace Go.Abs
open Go.Proofs
open Api
theorem C9w(w:Api.World)(x:Api.Input)(hw:Wsm w)(hx:Body.sm x.Body): ∃r:Api.World×Int×Int,Wsm r.1∧A5 Tryz.prog C9e [.agg w.enc, .agg x.enc] [] (.tup [.agg r.1.enc, .sc (.int .i64 r.2.1), .sc (.int .i64 r.2.2)]) []:=by
 by_cases h1:P5 w≠0
 ·refine⟨(zW,0,18),A2f,?_⟩;refine P6 87 [(4,some (some 11)),(5,none),(6,none)] hm A1 Tryz.func39 rfl ?_;simp only[go_sem,go_sem_proc];refine A0 (H8 w hw) rfl ?_;simp only[go_sem,go_sem_proc];rw[if_pos (by simpa using h1)]
  all_goals((repeat' (with_reducible apply And.intro)) <;> first |with_reducible rfl |rfl |exact B7 _ |exact C1 rfl |omega)
 by_cases h2:A37 x≠0
 ·refine⟨(zW,0,A37 x),A2f,?_⟩;refine P6 87 [(4,some (some 11)),(5,none),(6,none)] hm A1 Tryz.func39 rfl ?_;simp only[go_sem,go_sem_proc];refine A0 (H8 w hw) rfl ?_;simp only[go_sem,go_sem_proc];rw[if_neg (by simpa using h1)];refine A0 (U4 x hx) rfl ?_;simp only[go_sem,go_sem_proc];rw[if_pos (by simpa using h2)]
  all_goals((repeat' (with_reducible apply And.intro)) <;> first |with_reducible rfl |rfl |exact B7 _ |exact C1 rfl |omega)
 by_cases k9:x.Kind=9
 ·obtain⟨r,hr,hc⟩:=C57 w x.Body hw hx;refine⟨r,hr,?_⟩;refine P6 87 [(4,some (some 11)),(5,none),(6,none)] hm A1 Tryz.func39 rfl ?_;simp only[go_sem,go_sem_proc];refine A0 (H8 w hw) rfl ?_;simp only[go_sem,go_sem_proc];rw[if_neg (by simpa using h1)];refine A0 (U4 x hx) rfl ?_;simp only[go_sem,go_sem_proc];rw[if_neg (by simpa using h2)];rw[if_pos (by simp[k9])];refine A0 hc rfl ?_;simp only[go_sem,go_sem_proc]
  all_goals((repeat' (with_reducible apply And.intro)) <;> first |with_reducible rfl |rfl |exact B7 _ |exact C1 rfl |omega)
 by_cases k11:x.Kind=11
 ·obtain⟨r,hr,hc⟩:=C4a w x.Joint hw;refine⟨r,hr,?_⟩;refine P6 87 [(4,some (some 11)),(5,none),(6,none)] hm A1 Tryz.func39 rfl ?_;simp only[go_sem,go_sem_proc];refine A0 (H8 w hw) rfl ?_;simp only[go_sem,go_sem_proc];rw[if_neg (by simpa using h1)];refine A0 (U4 x hx) rfl ?_;simp only[go_sem,go_sem_proc];rw[if_neg (by simpa using h2)];rw[if_neg (by simpa using k9)];rw[if_pos (by simp[k11])];refine A0 hc rfl ?_;simp only[go_sem,go_sem_proc]
  all_goals((repeat' (with_reducible apply And.intro)) <;> first |with_reducible rfl |rfl |exact B7 _ |exact C1 rfl |omega)
 by_cases k10:x.Kind=10
 ·obtain⟨r,hr,hc⟩:=B9g w x.ID hw;refine⟨(r.1,0,r.2),hr,?_⟩;refine P6 87 [(4,some (some 11)),(5,none),(6,none)] hm A1 Tryz.func39 rfl ?_;simp only[go_sem,go_sem_proc];refine A0 (H8 w hw) rfl ?_;simp only[go_sem,go_sem_proc];rw[if_neg (by simpa using h1)];refine A0 (U4 x hx) rfl ?_;simp only[go_sem,go_sem_proc];rw[if_neg (by simpa using h2)];rw[if_neg (by simpa using k9)];rw[if_neg (by simpa using k11)];rw[if_pos (by simp[k10])];refine A0 hc rfl ?_;simp only[go_sem,go_sem_proc]
  all_goals((repeat' (with_reducible apply And.intro)) <;> first |with_reducible rfl |rfl |exact B7 _ |exact C1 rfl |omega)
 by_cases k12:x.Kind=12
 ·obtain⟨r,hr,hc⟩:=B8c w x.ID hw;refine⟨(r.1,0,r.2),hr,?_⟩;refine P6 87 [(4,some (some 11)),(5,none),(6,none)] hm A1 Tryz.func39 rfl ?_;simp only[go_sem,go_sem_proc];refine A0 (H8 w hw) rfl ?_;simp only[go_sem,go_sem_proc];rw[if_neg (by simpa using h1)];refine A0 (U4 x hx) rfl ?_;simp only[go_sem,go_sem_proc];rw[if_neg (by simpa using h2)];rw[if_neg (by simpa using k9)];rw[if_neg (by simpa using k11)];rw[if_neg (by simpa using k10)];rw[if_pos (by simp[k12])];refine A0 hc rfl ?_;simp only[go_sem,go_sem_proc]
  all_goals((repeat' (with_reducible apply And.intro)) <;> first |with_reducible rfl |rfl |exact B7 _ |exact C1 rfl |omega)
 by_cases k7:x.Kind=7
 ·obtain⟨r,hr,hc⟩:=A8d w x hw;refine⟨(r.1,0,r.2),hr,?_⟩;refine P6 87 [(4,some (some 11)),(5,none),(6,none)] hm A1 Tryz.func39 rfl ?_;simp only[go_sem,go_sem_proc];refine A0 (H8 w hw) rfl ?_;simp only[go_sem,go_sem_proc];rw[if_neg (by simpa using h1)];refine A0 (U4 x hx) rfl ?_;simp only[go_sem,go_sem_proc];rw[if_neg (by simpa using h2)];rw[if_neg (by simpa using k9)];rw[if_neg (by simpa using k11)];rw[if_neg (by simpa using k10)];rw[if_neg (by simpa using k12)];rw[if_pos (by simp[k7])];rw[if_pos (by simp[k7])];refine A0 hc rfl ?_;simp only[go_sem,go_sem_proc]
  all_goals((repeat' (with_reducible apply And.intro)) <;> first |with_reducible rfl |rfl |exact B7 _ |exact C1 rfl |omega)
 by_cases k8:x.Kind=8
 ·obtain⟨r,hr,hc⟩:=A8d w x hw;refine⟨(r.1,0,r.2),hr,?_⟩;refine P6 87 [(4,some (some 11)),(5,none),(6,none)] hm A1 Tryz.func39 rfl ?_;simp only[go_sem,go_sem_proc];refine A0 (H8 w hw) rfl ?_;simp only[go_sem,go_sem_proc];rw[if_neg (by simpa using h1)];refine A0 (U4 x hx) rfl ?_;simp only[go_sem,go_sem_proc];rw[if_neg (by simpa using h2)];rw[if_neg (by simpa using k9)];rw[if_neg (by simpa using k11)];rw[if_neg (by simpa using k10)];rw[if_neg (by simpa using k12)];rw[if_neg (by simpa using k7)];rw[if_pos (by simp[k8])];refine A0 hc rfl ?_;simp only[go_sem,go_sem_proc]
  all_goals((repeat' (with_reducible apply And.intro)) <;> first |with_reducible rfl |rfl |exact B7 _ |exact C1 rfl |omega)
 obtain⟨r,hr,hc⟩:=B77 w x hw;refine⟨(r.1,0,r.2),hr,?_⟩;refine P6 87 [(4,some (some 11)),(5,none),(6,none)] hm A1 Tryz.func39 rfl ?_;simp only[go_sem,go_sem_proc];refine A0 (H8 w hw) rfl ?_;simp only[go_sem,go_sem_proc];rw[if_neg (by simpa using h1)];refine A0 (U4 x hx) rfl ?_;simp only[go_sem,go_sem_proc];rw[if_neg (by simpa using h2)];rw[if_neg (by simpa using k9)];rw[if_neg (by simpa using k11)];rw[if_neg (by simpa using k10)];rw[if_neg (by simpa using k12)];rw[if_neg (by simpa using k7)];rw[if_neg (by simpa using k8)];refine A0 hc rfl ?_;simp only[go_sem,go_sem_proc]
 all_goals((repeat' (with_reducible apply And.intro)) <;> first |with_reducible rfl |rfl |exact B7 _ |exact C1 rfl |omega)
end Go.Abs
end
section
namespace Go.Abs
open Go.Proofs
open Api
def Ob {α:Type}(z:Nat)(enc:α→List AV)(d:α)(l:List α):List (Nat×A8):= [(1, .box [.sl 2 0 l.length l.length]),(2, .arr z (D2 enc d l))]
theorem B4k {α:Type}{z:Nat}{enc:α→List AV}{d:α}{l:List α}:okO (Ob z enc d l):=by
 refine⟨by simp[Ob],fun p hp cs e j hj=> ?_⟩;simp only[Ob,List.mem_cons,List.not_mem_nil,or_false]at hp;rcases hp with rfl |rfl
 ·simp only[A8.box.injEq]at e;subst e;simp[C9,AV.ids]at hj;subst hj;rfl
 ·cases e
def feF {α:Type}(mask:Int)(vis:Body→Nat→List α→List α)(b:Body)(i:Nat)(l:List α):List α:=if A27 (b.Fixtures.getD i default) mask=true then vis b i l else l
def feB {α:Type}(w:Api.World)(mask:Int)(vis:Body→Nat→List α→List α)(i:Nat)(l:List α):List α:=itr (feF mask vis (w.Bodies.getD i default)) (w.Bodies.getD i default).Fixtures.length l
def feR {α:Type}(w:Api.World)(mask:Int)(vis:Body→Nat→List α→List α)(l:List α):List α:=if P5 w=0 then itr (feB w mask vis) w.Bodies.length l else l
theorem C7p {α:Type}{mask:Int}{vis:Body→Nat→List α→List α}(hvl: ∀b i l,(vis b i l).length≤l.length+1)(b:Body)(l:List α): ∀n,(itr (feF mask vis b) n l).length≤l.length+n
 |0=>Nat.le_refl _
 |n+1=>by
  have h:=C7p (mask:=mask) hvl b l n;rw[show itr (feF mask vis b) (n+1) l=feF mask vis b n (itr (feF mask vis b) n l)from H7 ..];generalize itr (feF mask vis b) n l=v at h⊢;unfold feF;split
  ·have:=hvl b n v;omega
  ·omega
theorem C07 {α:Type}{w:Api.World}{mask:Int}{vis:Body→Nat→List α→List α}(hvl: ∀b i l,(vis b i l).length≤l.length+1)(hq: ∀b∈w.Bodies,b.Fixtures.length≤1000)(l:List α): ∀n,n≤w.Bodies.length→(itr (feB w mask vis) n l).length≤l.length+1000*n
 |0,_=>Nat.le_refl _
 |n+1,hn=>by
  have h:=C07 (mask:=mask) hvl hq l n (by omega);rw[show itr (feB w mask vis) (n+1) l=feB w mask vis n (itr (feB w mask vis) n l)from H7 ..];generalize itr (feB w mask vis) n l=v at h⊢;unfold feB;have h1:=C7p (mask:=mask) hvl (w.Bodies.getD n default) v (w.Bodies.getD n default).Fixtures.length
  have h2:=hq (w.Bodies.getD n default) (D6 default (by omega));omega
theorem B29 {α:Type}{z:Nat}{enc:α→List AV}{d:α}(w:Api.World)(mask:Int)(f:FuncId)(cap:List AV)(vis:Body→Nat→List α→List α)(hw:Wsm w)(hq: ∀b∈w.Bodies,b.Fixtures.length≤1000)(hq2:w.Bodies.length≤1000)(h2:C9 cap= [])
  (hv: ∀b∈w.Bodies,∀(i:Nat),i<b.Fixtures.length→ ∀l:List α,l.length≤2000000→A5 Tryz.prog f ([.agg b.enc, .sc (.int .i64 i)]++(cap++ [.ptr 1 0 0 1])) (Ob z enc d l) (.tup []) (Ob z enc d (vis b i l)))
  (hvl: ∀b i l,(vis b i l).length≤l.length+1)(l0:List α)(hl0:l0.length≤1000):
  A5 Tryz.prog C4v [.agg w.enc, .sc (.int .i64 mask), .fn (.func f) [] (cap++ [.ptr 1 0 0 1])] (Ob z enc d l0) (.tup []) (Ob z enc d (feR w mask vis l0)):=by
 refine D7s hm A1 Tryz.func124 rfl rfl ?_;unfold feR;simp only[go_sem,go_sem_proc,Ob];refine A0 (H8 w hw) rfl ?_;simp only[go_sem,go_sem_proc];by_cases hval:P5 w=0;rotate_left
 ·rw[if_pos (by simpa using hval),if_neg hval];refine E3 [] [] [] rfl rfl (by simp[go_sem,Ob]) (by simp[A9,go_sem,Ob]) (by simp[go_sem,Ob,A9]) ?_;simp only[go_sem,go_sem_proc,Ob]
 rw[if_neg (by simpa using hval),if_pos hval];refine C6 hm (ι:= {i:Nat // i≤w.Bodies.length}) (fun i=> [(1, .share, .sc (.int .i64 mask)),(2, .share, .fn (.func f) [] (cap++ [.ptr 1 0 0 1])),(14, .share,B4 20 Body.enc default w.Bodies),(15, .share, .sc (.int .i64 w.Bodies.length)),(16, .share, .sc (.int .i64 (i.1:Nat)))]) (fun i=>Ob z enc d (itr (feB w mask vis) i.1 l0)) (fun i=>w.Bodies.length-i.1) ⟨0,Nat.zero_le _⟩ ?_ ?_
 ·simp only[B6];refine B3 [] [] (by simp[go_sem,Ob]) (by simp[A9,go_sem,Ob]) (by simp[go_sem,Ob,A9]) ?_;simp only[go_sem,go_sem_proc,Ob];exact⟨(AV.ren_id (.fn (.func f) [] (cap++ [.ptr 1 0 0 1]))).symm,(fun i hi=>by rw[A0g,h2]at hi;simp[C9,AV.ids]at hi;subst hi;rfl)⟩
 ·rintro⟨i,hi⟩;dsimp only;have hlen:=C07 (w:=w) (mask:=mask) hvl hq l0 i hi
  have hnext:itr (feB w mask vis) (i+1) l0=feB w mask vis i (itr (feB w mask vis) i l0):=H7 ..
  have hfin:w.Bodies.length≤i→itr (feB w mask vis) i l0=itr (feB w mask vis) w.Bodies.length l0:=fun h=>by rw[show i=w.Bodies.length by omega]
  generalize itr (feB w mask vis) i l0=v at hlen hnext hfin⊢;simp only[go_sem,go_sem_proc,Ob];split;rotate_left
  ·rename_i hge;rw[←hfin (by omega)];refine E3 [] [] [] rfl rfl (by simp[go_sem,Ob]) (by simp[A9,go_sem,Ob]) (by simp[go_sem,Ob,A9]) ?_;simp only[go_sem,go_sem_proc,Ob]
  rename_i hlt;have hlt:i<w.Bodies.length:=by omega
  have hbm:=D6 (l:=w.Bodies) default hlt
  have hqb:=hq _ hbm;generalize hbd:w.Bodies.getD i default=b at hbm hqb⊢;replace hnext:itr (feB w mask vis) (i+1) l0=itr (feF mask vis b) b.Fixtures.length v:=by rw[hnext];unfold feB;rw[hbd]
  refine⟨⟨by omega,by omega⟩,?_⟩;refine C6 hm (ι:= {k:Nat // k≤b.Fixtures.length}) (fun k=> [(1, .share, .sc (.int .i64 mask)),(2, .share, .fn (.func f) [] (cap++ [.ptr 1 0 0 1])),(14, .share,B4 20 Body.enc default w.Bodies),(15, .share, .sc (.int .i64 w.Bodies.length)),(16, .share, .sc (.int .i64 (i:Nat))),(7, .thaw, .fptr b.enc),(21, .share,B4 10 Fixture.enc default b.Fixtures),(22, .share, .sc (.int .i64 b.Fixtures.length)),(23, .share, .sc (.int .i64 (k.1:Nat)))]) (fun k=>Ob z enc d (itr (feF mask vis b) k.1 v)) (fun k=>b.Fixtures.length-k.1) ⟨0,Nat.zero_le _⟩ ?_ ?_
  ·simp only[B6];refine B3 [] [] (by simp[go_sem,Ob]) (by simp[A9,go_sem,Ob]) (by simp[go_sem,Ob,A9]) ?_;simp only[go_sem,go_sem_proc,Ob,Q4];exact⟨(AV.ren_id (.fn (.func f) [] (cap++ [.ptr 1 0 0 1]))).symm,(fun i hi=>by rw[A0g,h2]at hi;simp[C9,AV.ids]at hi;subst hi;rfl)⟩
  ·rintro⟨k,hk⟩;dsimp only;have hlen2:=C7p (mask:=mask) hvl b v k
   have hnext2:itr (feF mask vis b) (k+1) v=feF mask vis b k (itr (feF mask vis b) k v):=H7 ..
   have hfin2:b.Fixtures.length≤k→itr (feF mask vis b) k v=itr (feF mask vis b) b.Fixtures.length v:=fun h=>by rw[show k=b.Fixtures.length by omega]
   generalize itr (feF mask vis b) k v=u at hlen2 hnext2 hfin2⊢;simp only[go_sem,go_sem_proc,Ob];split;rotate_left
   ·refine B8 ⟨i+1,hlt⟩ (by show w.Bodies.length-(i+1)<w.Bodies.length-i;omega) ?_;simp only[hnext];rw[←hfin2 (by omega)];refine B3 [] [] (by simp[go_sem,Ob]) (by simp[A9,go_sem,Ob]) (by simp[go_sem,Ob,A9]) ?_;simp only[go_sem,go_sem_proc,Ob];exact⟨(AV.ren_id (.fn (.func f) [] (cap++ [.ptr 1 0 0 1]))).symm,(fun i hi=>by rw[A0g,h2]at hi;simp[C9,AV.ids]at hi;subst hi;rfl),(by rw[IntKind.wrap_i64];omega)⟩
   rename_i hlt2;have hlt2:k<b.Fixtures.length:=by omega
   refine⟨⟨by omega,by omega⟩,?_⟩;refine A0 (C00 (b.Fixtures.getD k default) mask) rfl ?_;simp only[go_sem,go_sem_proc];by_cases hc:A27 (b.Fixtures.getD k default) mask=true
   ·rw[if_pos hc];replace hnext2:itr (feF mask vis b) (k+1) v=vis b k u:=by rw[hnext2];unfold feF;rw[if_pos hc]
    refine A9k (hv b hbm k hlt2 u (by omega)) B4k B4k (by simp[Ob]) (by simp[Ob,upd]) (by simp[Ob]) ?_ rfl ?_
    ·intro a ha j hj;have hids: ∀x:List AV,C9 ([.agg b.enc, .sc (.int .i64 (k:Int))]++(cap++ [.ptr 1 0 0 1]))= [1]:=fun _=>by rw[A0g,A0g,h2];simp[C9,AV.ids,Body.enc,B4]
     obtain⟨q,hq⟩:=List.getElem?_of_mem ha;have:=K8 hq j hj
     have this2:j∈C9 ([.agg b.enc, .sc (.int .i64 (k:Int))]++(cap++ [.ptr 1 0 0 1])):=this;rw[hids []]at this2;simp at this2;subst this2;rfl
    simp only[go_sem,go_sem_proc];refine B8 ⟨k+1,hlt2⟩ (by show b.Fixtures.length-(k+1)<b.Fixtures.length-k;omega) ?_;simp only[hnext2];refine B3 [] [] (by simp[go_sem,Ob]) (by simp[A9,go_sem,Ob]) (by simp[go_sem,Ob,A9]) ?_;simp only[go_sem,go_sem_proc,Ob];exact⟨(AV.ren_id (.fn (.func f) [] (cap++ [.ptr 1 0 0 1]))).symm,(fun i hi=>by rw[A0g,h2]at hi;simp[C9,AV.ids]at hi;subst hi;rfl),(by rw[IntKind.wrap_i64];omega)⟩
   ·rw[if_neg hc];replace hnext2:itr (feF mask vis b) (k+1) v=u:=by rw[hnext2];unfold feF;rw[if_neg hc]
    refine B8 ⟨k+1,hlt2⟩ (by show b.Fixtures.length-(k+1)<b.Fixtures.length-k;omega) ?_;simp only[hnext2];refine B3 [] [] (by simp[go_sem,Ob]) (by simp[A9,go_sem,Ob]) (by simp[go_sem,Ob,A9]) ?_;simp only[go_sem,go_sem_proc,Ob];exact⟨(AV.ren_id (.fn (.func f) [] (cap++ [.ptr 1 0 0 1]))).symm,(fun i hi=>by rw[A0g,h2]at hi;simp[C9,AV.ids]at hi;subst hi;rfl),(by rw[IntKind.wrap_i64];omega)⟩
end Go.Abs
end
section
namespace Go.Proofs
open Go.Shelf
def Tryz.lays189_ren:Go.Shelf.Ren:=⟨fun |189=>131 |125=>235 |257=>238 |128=>348 |129=>349 |294=>350 |295=>351 |296=>352 |297=>353 |298=>354 |299=>355 |216=>184 |300=>356 |301=>357 |328=>432 |329=>428 |330=>429 |331=>433 |332=>434 |215=>301 |343=>469 |n=>n,fun |28=>57 |3=>3 |46=>269 |0=>0 |51=>389 |53=>391 |4=>4 |183=>383 |182=>382 |131=>175 |5=>5 |9=>9 |218=>450 |222=>454 |228=>486 |229=>281 |n=>n,fun |n=>n⟩
theorem Tryz.lays189:Go.Proofs.Lays.n189 Tryz.prog Tryz.lays189_ren:= {
 mixed:=by kernel_rfl
 f125:=Tryz.func235.trans (congrArg some (by kernel_rfl))
 f128:=Tryz.func348.trans (congrArg some (by kernel_rfl))
 f129:=Tryz.func349.trans (congrArg some (by kernel_rfl))
 f189:=Tryz.func131.trans (congrArg some (by kernel_rfl))
 f215:=Tryz.func301.trans (congrArg some (by kernel_rfl))
 f216:=Tryz.func184.trans (congrArg some (by kernel_rfl))
 f257:=Tryz.func238.trans (congrArg some (by kernel_rfl))
 f294:=Tryz.func350.trans (congrArg some (by kernel_rfl))
 f295:=Tryz.func351.trans (congrArg some (by kernel_rfl))
 f296:=Tryz.func352.trans (congrArg some (by kernel_rfl))
 f297:=Tryz.func353.trans (congrArg some (by kernel_rfl))
 f298:=Tryz.func354.trans (congrArg some (by kernel_rfl))
 f299:=Tryz.func355.trans (congrArg some (by kernel_rfl))
 f300:=Tryz.func356.trans (congrArg some (by kernel_rfl))
 f301:=Tryz.func357.trans (congrArg some (by kernel_rfl))
 f328:=Tryz.func432.trans (congrArg some (by kernel_rfl))
 f329:=Tryz.func428.trans (congrArg some (by kernel_rfl))
 f330:=Tryz.func429.trans (congrArg some (by kernel_rfl))
 f331:=Tryz.func433.trans (congrArg some (by kernel_rfl))
 f332:=Tryz.func434.trans (congrArg some (by kernel_rfl))
 f343:=Tryz.func469.trans (congrArg some (by kernel_rfl))
 t0:=Tryz.underlying0
 a0:=Tryz.isAgg0
 z0:=Tryz.sizeOf0
 v0:=Tryz.zeroValue0
 t3:=Tryz.underlying3
 a3:=Tryz.isAgg3
 z3:=Tryz.sizeOf3
 v3:=Tryz.zeroValue3
 t4:=Tryz.underlying4
 a4:=Tryz.isAgg4
 z4:=Tryz.sizeOf4
 v4:=Tryz.zeroValue4
 t5:=Tryz.underlying5
 a5:=Tryz.isAgg5
 z5:=Tryz.sizeOf5
 v5:=Tryz.zeroValue5
 t9:=Tryz.underlying9
 a9:=Tryz.isAgg9
 z9:=Tryz.sizeOf9
 v9:=Tryz.zeroValue9
 t28:=Tryz.underlying57
 a28:=Tryz.isAgg57
 z28:=Tryz.sizeOf57
 v28:=Tryz.zeroValue57
 t46:=Tryz.underlying269
 a46:=Tryz.isAgg269
 z46:=Tryz.sizeOf269
 v46:=Tryz.zeroValue269
 t51:=Tryz.underlying389
 a51:=Tryz.isAgg389
 z51:=Tryz.sizeOf389
 v51:=Tryz.zeroValue389
 t53:=Tryz.underlying391
 a53:=Tryz.isAgg391
 z53:=Tryz.sizeOf391
 v53:=Tryz.zeroValue391
 t131:=Tryz.underlying175
 a131:=Tryz.isAgg175
 z131:=Tryz.sizeOf175
 v131:=Tryz.zeroValue175
 t182:=Tryz.underlying382
 a182:=Tryz.isAgg382
 z182:=Tryz.sizeOf382
 v182:=Tryz.zeroValue382
 t183:=Tryz.underlying383
 a183:=Tryz.isAgg383
 z183:=Tryz.sizeOf383
 v183:=Tryz.zeroValue383
 t218:=Tryz.underlying450
 a218:=Tryz.isAgg450
 z218:=Tryz.sizeOf450
 v218:=Tryz.zeroValue450
 t222:=Tryz.underlying454
 a222:=Tryz.isAgg454
 z222:=Tryz.sizeOf454
 v222:=Tryz.zeroValue454
 t228:=Tryz.underlying486
 a228:=Tryz.isAgg486
 z228:=Tryz.sizeOf486
 v228:=Tryz.zeroValue486
 t229:=Tryz.underlying281
 a229:=Tryz.isAgg281
 z229:=Tryz.sizeOf281
 v229:=Tryz.zeroValue281}
open Go.Sort Go.RowKit in
theorem Tryz.slices_Sort_int(blk off cap:Nat)(zs:List Int)(w:World)(hH:Holds (Value.int .i64) w blk off zs.toArray)(hblk:blk<w.heap.size)(hsz:zs.length<4611686018427387904):
  Calls Tryz.prog 131 #[.slice (some ⟨blk,off,none⟩) zs.length cap] w fun e w'=>e= .returned (.tuple #[])∧ ∃n os,w'=grow (putRow (Value.int .i64) (Sort.ahead w n) blk off (zs.mergeSort fun x y=>decide (x≤y)).toArray) os:=Any.slices_Sort_int Tryz.lays189 blk off cap zs w hH hblk hsz
def Tryz.laysNm220_ren:Go.Shelf.Ren:=⟨fun |20=>132 |n=>n,fun |22=>57 |3=>3 |4=>4 |0=>0 |n=>n,fun |n=>n⟩
theorem Tryz.laysNm220:Go.Proofs.Lays2.n20 Tryz.prog Tryz.laysNm220_ren:= {
 mixed:=by kernel_rfl
 f20:=Tryz.func132.trans (congrArg some (by kernel_rfl))
 t0:=Tryz.underlying0
 a0:=Tryz.isAgg0
 z0:=Tryz.sizeOf0
 v0:=Tryz.zeroValue0
 t3:=Tryz.underlying3
 a3:=Tryz.isAgg3
 z3:=Tryz.sizeOf3
 v3:=Tryz.zeroValue3
 t4:=Tryz.underlying4
 a4:=Tryz.isAgg4
 z4:=Tryz.sizeOf4
 v4:=Tryz.zeroValue4
 t22:=Tryz.underlying57
 a22:=Tryz.isAgg57
 z22:=Tryz.sizeOf57
 v22:=Tryz.zeroValue57
 i3:=by kernel_rfl}
open Go.RowKit Go.Lib Go.Sort in
theorem Tryz.slices_Compact_int(blk off cap:Nat)(zs:List Int)(w:World)(hH:Holds (Value.int .i64) w blk off zs.toArray)(hsz:zs.length≤9223372036854775807)(hcap:zs.length≤cap):
  Calls Tryz.prog 132 #[.slice (some ⟨blk,off,none⟩) zs.length cap] w fun e w'=>e= .returned (.slice (some ⟨blk,off,none⟩) (Lib.compact zs).length cap)∧ ∃q,w'=putRow (Value.int .i64) (Sort.ahead w q) blk off (Lib.compact zs++List.replicate (zs.length-(Lib.compact zs).length) 0).toArray:=Any.slices_Compact_int Tryz.laysNm220 blk off cap zs w hH hsz hcap
open Go.RowKit Go.Lib Go.Sort in
theorem Tryz.slices_Compact_int_empty(a:Option Addr)(cap:Nat)(w:World):
  Calls Tryz.prog 132 #[.slice a 0 cap] w fun e w'=>e= .returned (.slice a 0 cap)∧w'=w:=Any.slices_Compact_int_empty Tryz.laysNm220 a cap w
open Go.RowKit Go.Sort in
theorem Tryz.slices_Sort_int_none(p:Option Addr)(cap:Nat)(w:World):
  Calls Tryz.prog 131 #[.slice p 0 cap] w fun e w'=>e= .returned (.tuple #[])∧w'=w:=Any.slices_Sort_int_none Tryz.lays189 p cap w
def Tryz.laySF_RayHit_ren:Go.Shelf.Ren:=⟨fun |6=>128 |15=>235 |14=>234 |28=>348 |29=>349 |20=>340 |21=>341 |22=>342 |23=>343 |24=>344 |25=>345 |26=>346 |27=>347 |46=>427 |47=>428 |48=>429 |49=>430 |50=>431 |57=>468 |n=>n,fun |22=>146 |24=>56 |25=>213 |3=>3 |39=>269 |0=>0 |53=>389 |55=>391 |4=>4 |46=>383 |45=>382 |50=>175 |5=>5 |9=>9 |66=>450 |70=>454 |76=>486 |77=>281 |n=>n,fun |n=>n⟩
theorem Tryz.laySF_RayHit:Go.Proofs.SlLaysF0.n6 Tryz.prog Tryz.laySF_RayHit_ren:= {
 mixed:=by kernel_rfl
 f6:=⟨Tryz.f128.name,by decide,Tryz.func128.trans (congrArg some (by kernel_rfl))⟩
 f14:=⟨Tryz.f234.name,by decide,Tryz.func234.trans (congrArg some (by kernel_rfl))⟩
 f15:=Tryz.func235.trans (congrArg some (by kernel_rfl))
 f20:=⟨Tryz.f340.name,by decide,Tryz.func340.trans (congrArg some (by kernel_rfl))⟩
 f21:=⟨Tryz.f341.name,by decide,Tryz.func341.trans (congrArg some (by kernel_rfl))⟩
 f22:=⟨Tryz.f342.name,by decide,Tryz.func342.trans (congrArg some (by kernel_rfl))⟩
 f23:=⟨Tryz.f343.name,by decide,Tryz.func343.trans (congrArg some (by kernel_rfl))⟩
 f24:=⟨Tryz.f344.name,by decide,Tryz.func344.trans (congrArg some (by kernel_rfl))⟩
 f25:=⟨Tryz.f345.name,by decide,Tryz.func345.trans (congrArg some (by kernel_rfl))⟩
 f26:=⟨Tryz.f346.name,by decide,Tryz.func346.trans (congrArg some (by kernel_rfl))⟩
 f27:=⟨Tryz.f347.name,by decide,Tryz.func347.trans (congrArg some (by kernel_rfl))⟩
 f28:=Tryz.func348.trans (congrArg some (by kernel_rfl))
 f29:=Tryz.func349.trans (congrArg some (by kernel_rfl))
 f46:=⟨Tryz.f427.name,by decide,Tryz.func427.trans (congrArg some (by kernel_rfl))⟩
 f47:=Tryz.func428.trans (congrArg some (by kernel_rfl))
 f48:=Tryz.func429.trans (congrArg some (by kernel_rfl))
 f49:=⟨Tryz.f430.name,by decide,Tryz.func430.trans (congrArg some (by kernel_rfl))⟩
 f50:=⟨Tryz.f431.name,by decide,Tryz.func431.trans (congrArg some (by kernel_rfl))⟩
 f57:=⟨Tryz.f468.name,by decide,Tryz.func468.trans (congrArg some (by kernel_rfl))⟩
 t0:=Tryz.underlying0
 a0:=Tryz.isAgg0
 z0:=Tryz.sizeOf0
 v0:=Tryz.zeroValue0
 t3:=Tryz.underlying3
 a3:=Tryz.isAgg3
 z3:=Tryz.sizeOf3
 v3:=Tryz.zeroValue3
 t4:=Tryz.underlying4
 a4:=Tryz.isAgg4
 z4:=Tryz.sizeOf4
 v4:=Tryz.zeroValue4
 t5:=Tryz.underlying5
 a5:=Tryz.isAgg5
 z5:=Tryz.sizeOf5
 v5:=Tryz.zeroValue5
 t9:=Tryz.underlying9
 a9:=Tryz.isAgg9
 z9:=Tryz.sizeOf9
 v9:=Tryz.zeroValue9
 t22:=Tryz.underlying146
 a22:=Tryz.isAgg146
 z22:=Tryz.sizeOf146
 v22:=Tryz.zeroValue146
 t25:=Tryz.underlying213
 a25:=Tryz.isAgg213
 z25:=Tryz.sizeOf213
 v25:=Tryz.zeroValue213
 t39:=Tryz.underlying269
 a39:=Tryz.isAgg269
 z39:=Tryz.sizeOf269
 v39:=Tryz.zeroValue269
 t45:=Tryz.underlying382
 a45:=Tryz.isAgg382
 z45:=Tryz.sizeOf382
 v45:=Tryz.zeroValue382
 t46:=Tryz.underlying383
 a46:=Tryz.isAgg383
 z46:=Tryz.sizeOf383
 v46:=Tryz.zeroValue383
 t50:=Tryz.underlying175
 a50:=Tryz.isAgg175
 z50:=Tryz.sizeOf175
 v50:=Tryz.zeroValue175
 t53:=Tryz.underlying389
 a53:=Tryz.isAgg389
 z53:=Tryz.sizeOf389
 v53:=Tryz.zeroValue389
 t55:=Tryz.underlying391
 a55:=Tryz.isAgg391
 z55:=Tryz.sizeOf391
 v55:=Tryz.zeroValue391
 t66:=Tryz.underlying450
 a66:=Tryz.isAgg450
 z66:=Tryz.sizeOf450
 v66:=Tryz.zeroValue450
 t70:=Tryz.underlying454
 a70:=Tryz.isAgg454
 z70:=Tryz.sizeOf454
 v70:=Tryz.zeroValue454
 t76:=Tryz.underlying486
 a76:=Tryz.isAgg486
 z76:=Tryz.sizeOf486
 v76:=Tryz.zeroValue486
 t77:=Tryz.underlying281
 a77:=Tryz.isAgg281
 z77:=Tryz.sizeOf281
 v77:=Tryz.zeroValue281}
end Go.Proofs
end
section
namespace Go.Abs
open Go.Proofs
open Api
open Go.Sort
def B1f(l:List Int):List Int:=l.mergeSort fun x y=>decide (x≤y)
theorem A9q(l:List Int):(B1f l).length=l.length:=by simp[B1f]
theorem C13(l:List Int)(hl:l.length<4611686018427387904):A5 Tryz.prog C17 [.sl 1 0 l.length l.length] [(1, .arr 1 (D2 K4 0 l))] (.tup []) [(1, .arr 1 (D2 K4 0 (B1f l)))]:=
 E6h (by kernel_rfl) l (B1f l) (A9q l) (fun _ _=> .tuple #[]) (.tup []) (fun G w ob i a cap _ _ _=> .tup #[] rfl (fun j av h=>by simp at h))
  (fun blk cap w hH hb hc=>Tryz.slices_Sort_int blk 0 cap l w hH hb hl)
  (fun _ a w=>Tryz.slices_Sort_int_none a 0 w)
def B00(l:List Int):List Int:=Go.Lib.compact l
theorem B25(l:List Int):(B00 l).length≤l.length:=by unfold B00 Go.Lib.compact Go.Lib.compactUpTo;rw[List.length_map];have:=List.length_filter_le (Go.Lib.keeps l.toArray) (List.range l.length);rwa[List.length_range]at this
theorem B6n(l:List Int)(hl:l.length≤9223372036854775807):A5 Tryz.prog B6c [.sl 1 0 l.length l.length] [(1, .arr 1 (D2 K4 0 l))] (.sl 1 0 (B00 l).length l.length)
  [(1, .arr 1 (D2 K4 0 (B00 l++List.replicate (l.length-(B00 l).length) 0)))]:=by
 refine E6h (by kernel_rfl) l _ (by have:=B25 l;simp;omega) (fun a cap=> .slice a (B00 l).length cap) _ (fun G w ob i a cap hi hlen hs=> ?_)
  (fun blk cap w hH hb hc=>(Tryz.slices_Compact_int blk 0 cap l w hH hl hc).mono ?_) (fun e a w=> ?_)
 ·obtain⟨h1,h2,h3⟩:=hs;have hcl:=B25 l;refine .sl i hi (by omega) ⟨_,_,rfl⟩ fun _=>⟨by omega,fun hb=> ?_,fun b hb=> ?_⟩
  ·have hac:=h2 hb
   have:l.length=0:=by rcases hac with e |⟨a',e⟩ <;> (injection e)
   have e0:(B00 l).length=0:=by omega
   rw[e0];rw[this]at hac;exact hac
  ·obtain⟨o,c,e,h5,h6,h7⟩:=h3 b hb;injection e with e1 e2 e3;subst e1;subst e3;exact⟨o,cap,rfl,by omega,fun h=>by rw[(h7 rfl).1];simp,h7⟩
 ·rintro e w' ⟨rfl,q,rfl⟩;exact⟨rfl,q,#[],by rw[grow_empty];rfl⟩
 ·subst e;refine(Tryz.slices_Compact_int_empty a 0 w).mono ?_;rintro e w' ⟨rfl,rfl⟩;exact⟨rfl,rfl⟩
end Go.Abs
end
section
namespace Go.Abs
open Go.Proofs
open Api
end Go.Abs
namespace Go.Api
open Go.Abs
structure RayHit where
 Body:Int
 Fixture:Int
 Fraction:Int
 Point:Vec
 Normal:Vec
 deriving DecidableEq,Inhabited
def RayHit.enc(x:RayHit):List AV:=[.sc (.int .i64 x.Body), .sc (.int .i64 x.Fixture), .sc (.int .i64 x.Fraction), .sc (.int .i64 x.Point.X), .sc (.int .i64 x.Point.Y), .sc (.int .i64 x.Normal.X), .sc (.int .i64 x.Normal.Y)]
def RayHit.zero:List AV:= [.sc (.int .i64 0), .sc (.int .i64 0), .sc (.int .i64 0), .sc (.int .i64 0), .sc (.int .i64 0), .sc (.int .i64 0), .sc (.int .i64 0)]
attribute [go_sem] RayHit.enc RayHit.zero
@[go_sem] theorem F1n(x:RayHit):RayHit.mk x.Body x.Fixture x.Fraction x.Point x.Normal=x:=rfl
end Go.Api
namespace Go.Abs
open Go.Proofs Api
def C3u(p q:Vec)(b:Body)(i:Nat)(l:List RayHit):List RayHit:=
 if(V4 (b.Fixtures.getD i default).Shape b.Transform p q).2.2=true then
  l++ [⟨b.ID,i,(V4 (b.Fixtures.getD i default).Shape b.Transform p q).1,A3e p q (V4 (b.Fixtures.getD i default).Shape b.Transform p q).1,(V4 (b.Fixtures.getD i default).Shape b.Transform p q).2.1⟩]else l
theorem E0d(p q:Vec)(b:Body)(i:Nat)(l:List RayHit)(hb:Body.sm b)(hi:i<b.Fixtures.length)(hl:l.length≤2000000):A5 Tryz.prog A7b ([.agg b.enc, .sc (.int .i64 i)]++([.fptr p.enc, .fptr q.enc]++ [.ptr 1 0 0 1])) (Ob 7 RayHit.enc default l) (.tup []) (Ob 7 RayHit.enc default (C3u p q b i l)):=by
 refine D7s hm A1 Tryz.func125 rfl rfl ?_;simp only[go_sem,go_sem_proc,Ob];refine⟨⟨by omega,by omega⟩,?_⟩;refine A0 (C7z (b.Fixtures.getD i default).Shape b.Transform p q (hb.2 _ (D6 default hi))) rfl ?_;unfold C3u;generalize V4 (b.Fixtures.getD i default).Shape b.Transform p q=c;obtain⟨c1,c2,c3⟩:=c;simp only[go_sem,go_sem_proc];cases c3 with
 |false=>rw[if_neg (by simp),if_neg (by simp)];refine E3 [] [] [] rfl rfl (by simp[go_sem,Ob]) (by simp[A9,go_sem,Ob]) (by simp[go_sem,Ob,A9]) ?_;simp only[go_sem,go_sem_proc,Ob]
 |true=>rw[if_pos rfl,if_pos rfl];refine A0 (A6m p q c1) rfl ?_;simp only[go_sem,go_sem_proc];refine⟨⟨by omega,by unfold maxLen;omega⟩,?_⟩;refine E3 [] [] [] rfl rfl (by simp[go_sem,Ob]) (by simp[A9,go_sem,Ob]) (by simp[go_sem,Ob,A9]) ?_;simp only[go_sem,go_sem_proc,Ob,List.length_append,List.length_singleton];exact A3o _ rfl rfl
theorem D2b(p q:Vec)(b:Body)(i:Nat)(l:List RayHit):(C3u p q b i l).length≤l.length+1:=by
 unfold C3u;split
 ·rw[List.length_append,List.length_singleton];omega
 ·omega
def W5(a:RayHit)(b:RayHit):Int:=let v1:=(E6 a.Fraction b.Fraction);let v2:=(E6 a.Body b.Body);let v3:=(E6 a.Fixture b.Fixture);let v4:=(W9 ([v1,v2,v3]));v4
theorem C59(a:RayHit)(b:RayHit):A5 Tryz.prog B3a [.agg a.enc, .agg b.enc] [] (.sc (.int .i64 (W5 a b))) []:=by
 refine en1 hm A1 Tryz.func129 rfl rfl ?_;simp only[go_sem,go_sem_proc,A4,A6,A3,A2]
 (repeat(with_reducible refine And.intro ?_ ?_;focus (exact bO_)))
 refine A0 (W0 a.Fraction b.Fraction) rfl ?_;generalize hv1:(E6 a.Fraction b.Fraction)=v1;simp only[go_sem,go_sem_proc,A4,A6,A3,A2]
 (repeat(with_reducible refine And.intro ?_ ?_;focus (exact bO_)))
 refine A0 (W0 a.Body b.Body) rfl ?_;generalize hv2:(E6 a.Body b.Body)=v2;simp only[go_sem,go_sem_proc,A4,A6,A3,A2]
 (repeat(with_reducible refine And.intro ?_ ?_;focus (exact bO_)))
 refine A0 (W0 a.Fixture b.Fixture) rfl ?_;generalize hv3:(E6 a.Fixture b.Fixture)=v3;simp only[go_sem,go_sem_proc,A4,A6,A3,A2]
 (repeat(with_reducible refine And.intro ?_ ?_;focus (exact bO_)))
 refine A04 (B9c ([v1,v2,v3]) (by(first |assumption |omega |exact B0 |(simp_all;done) |(simp_all;omega)))) rfl ?_ ?_
 ·(try simp only[P9,go_sem,go_sem_proc,A4,A6,A3,A2]);all_goals((repeat' (with_reducible apply And.intro)) <;> first |with_reducible rfl |trivial |exact R5 (fun _ _=>rfl) rfl rfl rfl |exact C1 rfl |exact A2w _ |rfl)
 generalize hv4:(W9 ([v1,v2,v3]))=v4;simp only[go_sem,go_sem_proc,A4,A6,A3,A2]
 (repeat(with_reducible refine And.intro ?_ ?_;focus (exact bO_)))
 have hd:W5 a b=v4:=by first |with_reducible rfl |(simp only[W5,hv1,hv2,hv3,hv4,if_true,if_false,eq_self,Bool.false_eq_true,Bool.true_eq_false,not_true_eq_false,not_false_eq_true,reduceCtorEq,B6,C5,E1,E2,Bool.and_true,Bool.true_and,Bool.and_false,Bool.false_and,Bool.or_true,Bool.true_or,Bool.or_false,Bool.false_or,Bool.not_true,Bool.not_false,decide_true,decide_false];done) |(simp only[W5,hv1,hv2,hv3,hv4,if_true,if_false,eq_self,Bool.false_eq_true,Bool.true_eq_false,not_true_eq_false,not_false_eq_true,reduceCtorEq,B6,C5,E1,E2,Bool.and_true,Bool.true_and,Bool.and_false,Bool.false_and,Bool.or_true,Bool.true_or,Bool.or_false,Bool.false_or,Bool.not_true,Bool.not_false,decide_true,decide_false];with_reducible rfl) |(simp only[W5,hv1,hv2,hv3,hv4,if_true,if_false,eq_self,Bool.false_eq_true,Bool.true_eq_false,not_true_eq_false,not_false_eq_true,reduceCtorEq,B6,C5,E1,E2,Bool.and_true,Bool.true_and,Bool.and_false,Bool.false_and,Bool.or_true,Bool.true_or,Bool.or_false,Bool.false_or,Bool.not_true,Bool.not_false,decide_true,decide_false];rfl) |(unfold W5;(repeat' split) <;> first |rfl |omega |(simp_all;done) |(simp_all;omega))
 try rw[hd]
 try simp only[go_sem,go_sem_proc,A4,A6,A3,A2]
 all_goals exact eO_
theorem E00(x y:Int):E6 x y=B6o x y:=by unfold E6 A1o B6o;simp
theorem F9e(a b c:Int):W9 [a,b,c]=if a≠0 then a else if b≠0 then b else c:=by unfold W9;simp only[List.length_cons,List.length_nil,Nat.zero_add,Nat.reduceAdd,D0,A1l];by_cases ha:a=0 <;> by_cases hb:b=0 <;> by_cases hc:c=0 <;> simp[ha,hb,hc]
theorem F7y(a b:RayHit):W5 a b=B86 [RayHit.Fraction,RayHit.Body,RayHit.Fixture] a b:=by unfold W5;dsimp only;rw[F9e,E00,E00,E00];simp only[B86];by_cases h:B6o a.Fixture b.Fixture=0 <;> simp[h]
end Go.Abs
end
section
namespace Go.Abs
open Go.Proofs
open Api
open Go.Sort
def E6t(x:RayHit):KEl 7:=⟨[x.Body,x.Fixture,x.Fraction,x.Point.X,x.Point.Y,x.Normal.X,x.Normal.Y],rfl⟩
def D90(y:KEl 7):RayHit:=⟨y.1.getD 0 0,y.1.getD 1 0,y.1.getD 2 0,⟨y.1.getD 3 0,y.1.getD 4 0⟩,⟨y.1.getD 5 0,y.1.getD 6 0⟩⟩
theorem D9u: ∀y:KEl 7,kav y=(D90 y).enc
 |⟨[a,b,c,d,e,f,g],_⟩=>rfl
def E13(a b:RayHit):Int:=B86 [RayHit.Fraction,RayHit.Body,RayHit.Fixture] a b
def C5e(l:List RayHit):List RayHit:=B43 E6t D90 E13 l
theorem D61(l:List RayHit):(C5e l).length=l.length:=C9p (D1x _) l
theorem B16(id:Nat)(l:List RayHit)(hl:l.length<4611686018427387904):
  A5 Tryz.prog B1t [.sl id 0 l.length l.length, .fn (.func B3a) [] []] [(id, .arr 7 (D2 RayHit.enc default l))] (.tup []) [(id, .arr 7 (D2 RayHit.enc default (C5e l)))]:=
 E3w (toK:=E6t) (fromK:=D90) (cf:=E13) Tryz.laySF_RayHit (by decide) (by kernel_rfl) (fun w=>T6 (by kernel_rfl)) (fun w=>O8 (by kernel_rfl)) default rfl (fun x=>rfl) D9u (D1x _) (fun args w=>A72 (by kernel_rfl) args)
  (fun x y=>by have:=C59 x y;rwa[F7y]at this) id l hl
def rcA(w:Api.World)(p q:Vec)(mask:Int):List RayHit:=C5e (feR w mask (C3u p q) [])
theorem D5e {α:Type}{w:Api.World}{mask:Int}{vis:Body→Nat→List α→List α}(hvl: ∀b i l,(vis b i l).length≤l.length+1)(hq: ∀b∈w.Bodies,b.Fixtures.length≤1000)(hq2:w.Bodies.length≤1000):(feR w mask vis []).length≤1000000:=by
 unfold feR;split
 ·have:=C07 (mask:=mask) hvl hq [] w.Bodies.length (Nat.le_refl _)
  simp only[List.length_nil]at this;omega
 ·simp
theorem B92(w:Api.World)(p q:Vec)(mask:Int)(hw:Wsm w)(hq: ∀b∈w.Bodies,b.Fixtures.length≤1000)(hq2:w.Bodies.length≤1000):
  A5 Tryz.prog B87 [.agg w.enc, .agg p.enc, .agg q.enc, .sc (.int .i64 mask)] [] (B4 7 RayHit.enc default (rcA w p q mask)) []:=by
 have hlen:=D5e (mask:=mask) (D2b p q) hq hq2;refine E6x hm A1 Tryz.func67 rfl rfl ?_;refine L6 [(3, .share, .sc (.int .i64 mask)),(4, .thaw, .fptr w.enc),(5, .thaw, .fptr p.enc),(6, .thaw, .fptr q.enc)] [] (O4 hm ?_) ?_
 ·simp only[go_sem,go_sem_proc];refine B3 [] [] (by simp[go_sem]) (by simp[A9,go_sem]) (by simp[go_sem]) ?_;simp only[go_sem,go_sem_proc,Q4]
 refine L6 [(3, .share, .sc (.int .i64 mask)),(4, .share, .fptr w.enc),(5, .share, .fptr p.enc),(6, .share, .fptr q.enc),(9, .share, .ptr 1 0 0 1)] (Ob 7 RayHit.enc default []) (O4 hm ?_) ?_
 ·simp only[go_sem,go_sem_proc];refine B3 [(1,160)] [2] (by simp[go_sem,Ob]) (by simp[A9,go_sem,Ob]) (by simp[go_sem,Ob]) ?_;simp only[go_sem,go_sem_proc,Ob]
 refine O4 hm ?_;simp only[go_sem,go_sem_proc,Ob];have hF:=B29 (z:=7) (enc:=RayHit.enc) (d:=default) w mask A7b [.fptr p.enc, .fptr q.enc] (C3u p q) hw hq hq2 (by simp[C9,AV.ids,Vec.enc]) (fun b hb i hi l hl=>E0d p q b i l (hw.2.2.2.2.1 b hb) hi hl) (D2b p q) [] (by simp);generalize hfe:feR w mask (C3u p q) []=r at hF hlen;refine A9k hF B4k B4k (by simp[Ob]) (by simp[Ob,upd]) (by simp[Ob]) ?_ rfl ?_
 ·intro a ha j hj;obtain⟨k,hk⟩:=List.getElem?_of_mem ha;have:=K8 hk j hj;simp[C9,AV.ids,Vec.enc,World.enc,Settings.enc,B4]at this;subst this;rfl
 simp only[go_sem,go_sem_proc,Ob];refine A9k (B16 2 r (by omega)) (by simp[okO]) (by simp[okO]) (by simp) (by simp[upd]) (by simp) ?_ rfl ?_
 ·intro a ha j hj;obtain⟨k,hk⟩:=List.getElem?_of_mem ha;have:=K8 hk j hj;simp[C9,AV.ids]at this;subst this;rfl
 simp only[go_sem,go_sem_proc,Ob];rw[show rcA w p q mask=C5e r by unfold rcA;rw[hfe],D61];exact⟨rfl,B7 _⟩
def C6r(w:Api.World)(p q:Vec)(mask:Int):RayHit:=(rcA w p q mask).getD 0 default
theorem B5y(w:Api.World)(p q:Vec)(mask:Int)(hw:Wsm w)(hq: ∀b∈w.Bodies,b.Fixtures.length≤1000)(hq2:w.Bodies.length≤1000):
  A5 Tryz.prog B6w [.agg w.enc, .agg p.enc, .agg q.enc, .sc (.int .i64 mask)] [] (.tup [.agg (C6r w p q mask).enc, .sc (.bool (decide ((rcA w p q mask)≠ [])))]) []:=by
 unfold C6r;refine P6 23 [(8,some (some 7)),(9,none)] hm A1 Tryz.func35 rfl ?_;have hR:=B92 w p q mask hw hq hq2;generalize rcA w p q mask=r at hR⊢;simp only[go_sem,go_sem_proc];refine A0 hR rfl ?_;simp only[go_sem,go_sem_proc];cases r with
 |nil=>rw[if_pos (by simp)];exact⟨⟨rfl,rfl,rfl,rfl,rfl,rfl,rfl⟩,by simp⟩
 |cons x r=>rw[if_neg (by simp;omega)];exact⟨⟨by omega,by simp only[List.length_cons];omega⟩,by simp⟩
end Go.Abs
end
section
namespace Go.Abs
open Go.Proofs
open Api
def B5v(c:Shape→Transform→Bool)(b:Body)(i:Nat)(l:List Int):List Int:=if c (b.Fixtures.getD i default).Shape b.Transform=true then l++ [b.ID]else l
theorem C2z(c:Shape→Transform→Bool)(b:Body)(i:Nat)(l:List Int):(B5v c b i l).length≤l.length+1:=by
 unfold B5v;split
 ·rw[List.length_append,List.length_singleton];omega
 ·omega
theorem D7q {α:Type}{z n n':Nat}{enc:α→List AV}{d:α}{l m:List α}(hn:n=l.length)(hn':n'=l.length):J5 (.dsl z n (O6 enc d (l++m))) (.dsl z n' (O6 enc d l)):=by
 subst hn;subst hn';rw[A1c];refine⟨rfl,rfl,fun k hk=> ?_⟩;have:O6 enc d (l++m) k=O6 enc d l k:=by simp[O6,List.getD,List.getElem?_append_left hk]
 rw[this];exact Q6 _
theorem E23(g:FuncId)(pc:List AV)(c:Shape→Transform→Bool)(b:Body)(i:Nat)(l:List Int)(hb:Body.sm b)(hi:i<b.Fixtures.length)(hl:l.length≤2000000)(h2:C9 pc= [])
  (hg: ∀(s:Shape) (t:Transform),s.Vertices.length≤1048576→A5 Tryz.prog g [.agg s.enc, .agg t.enc, .fptr pc] [] (.sc (.bool (c s t))) []):
  A5 Tryz.prog A7i ([.agg b.enc, .sc (.int .i64 i)]++([.fptr [.fn (.func g) [] [.fptr pc]]]++ [.ptr 1 0 0 1])) (Ob 1 K4 0 l) (.tup []) (Ob 1 K4 0 (B5v c b i l)):=by
 refine D7s hm A1 Tryz.func130 rfl rfl ?_;simp only[go_sem,go_sem_proc,Ob];refine⟨⟨by omega,by omega⟩,?_⟩;refine A19 (hg (b.Fixtures.getD i default).Shape b.Transform (hb.2 _ (D6 default hi))) (by simp[C9,AV.ids,h2]) rfl ?_;unfold B5v;generalize c (b.Fixtures.getD i default).Shape b.Transform=t;simp only[go_sem,go_sem_proc];cases t with
 |false=>rw[if_neg (by simp),if_neg (by simp)];refine E3 [] [] [] rfl rfl (by simp[go_sem,Ob]) (by simp[A9,go_sem,Ob]) (by simp[go_sem,Ob,A9]) ?_;simp only[go_sem,go_sem_proc,Ob]
 |true=>rw[if_pos rfl,if_pos rfl];refine⟨⟨by omega,by unfold maxLen;omega⟩,?_⟩;refine E3 [] [] [] rfl rfl (by simp[go_sem,Ob]) (by simp[A9,go_sem,Ob]) (by simp[go_sem,Ob,A9]) ?_;simp only[go_sem,go_sem_proc,Ob,List.length_append,List.length_singleton];exact A3o _ rfl rfl
def bwL(w:Api.World)(mask:Int)(c:Shape→Transform→Bool):List Int:=B00 (B1f (feR w mask (B5v c) []))
theorem A9z(w:Api.World)(mask:Int)(g:FuncId)(pc:List AV)(c:Shape→Transform→Bool)(hw:Wsm w)(hq: ∀b∈w.Bodies,b.Fixtures.length≤1000)(hq2:w.Bodies.length≤1000)(h2:C9 pc= [])(h3:Q4 pc=true)
  (hg: ∀(s:Shape) (t:Transform),s.Vertices.length≤1048576→A5 Tryz.prog g [.agg s.enc, .agg t.enc, .fptr pc] [] (.sc (.bool (c s t))) []):
  A5 Tryz.prog B93 [.agg w.enc, .sc (.int .i64 mask), .fn (.func g) [] [.fptr pc]] [] (B4 1 K4 0 (bwL w mask c)) []:=by
 have hlen:(feR w mask (B5v c) []).length≤1000000:=by
  unfold feR;split
  ·have:=C07 (mask:=mask) (C2z c) hq [] w.Bodies.length (Nat.le_refl _)
   simp only[List.length_nil]at this;omega
  ·simp
 refine E6x hm A1 Tryz.func68 rfl rfl ?_;refine L6 [(1, .share, .sc (.int .i64 mask)),(3, .thaw, .fptr w.enc),(5, .thaw, .fptr [.fn (.func g) [] [.fptr pc]])] [] (O4 hm ?_) ?_
 ·simp only[go_sem,go_sem_proc];refine B3 [] [] (by simp[go_sem]) (by simp[A9,go_sem]) (by simp[go_sem]) ?_;simp only[go_sem,go_sem_proc,Q4]
 refine L6 [(1, .share, .sc (.int .i64 mask)),(3, .share, .fptr w.enc),(5, .share, .fptr [.fn (.func g) [] [.fptr pc]]),(7, .share, .ptr 1 0 0 1)] (Ob 1 K4 0 []) (O4 hm ?_) ?_
 ·simp only[go_sem,go_sem_proc];refine B3 [(1,128)] [2] (by simp[go_sem,Ob]) (by simp[A9,go_sem,Ob]) (by simp[go_sem,Ob]) ?_;simp only[go_sem,go_sem_proc,Ob]
 refine O4 hm ?_;simp only[go_sem,go_sem_proc,Ob];have hF:=B29 (z:=1) (enc:=K4) (d:=0) w mask A7i [.fptr [.fn (.func g) [] [.fptr pc]]] (B5v c) hw hq hq2 (by simp[C9,AV.ids,h2]) (fun b hb i hi l hl=>E23 g pc c b i l (hw.2.2.2.2.1 b hb) hi hl h2 hg) (C2z c) [] (by simp);generalize hfe:feR w mask (B5v c) []=r at hF hlen;refine A9k hF B4k B4k (by simp[Ob]) (by simp[Ob,upd]) (by simp[Ob]) ?_ rfl ?_
 ·intro a ha j hj;obtain⟨k,hk⟩:=List.getElem?_of_mem ha;have:=K8 hk j hj;simp[C9,AV.ids,World.enc,Settings.enc,B4,h2]at this;subst this;rfl
 simp only[go_sem,go_sem_proc,Ob];refine I4 [true] [(1,2)] (C13 r (by omega)) (by simp) (by simp) (by simp) (by simp[go_sem]) ?_;simp only[go_sem,go_sem_proc];have hC:=B6n (B1f r) (by rw[A9q];omega);rw[A9q]at hC;refine I4 [true] [(1,2)] hC (by simp) (by simp) (by simp) (by simp[go_sem]) ?_;simp only[go_sem,go_sem_proc];rw[show bwL w mask c=B00 (B1f r)by unfold bwL;rw[hfe]];exact⟨by have:=B25 (B1f r);rw[A9q]at this;simp;omega,D7q rfl rfl⟩
theorem E1a(p:Vec)(s:Shape)(t:Transform)(h0:s.Vertices.length≤1048576):A5 Tryz.prog A5h [.agg s.enc, .agg t.enc, .fptr p.enc] [] (.sc (.bool (U1 s t p))) []:=by refine en1 hm A1 Tryz.func69 rfl rfl ?_;simp only[go_sem,go_sem_proc];refine A0 (A7j s t p h0) rfl ?_;simp only[go_sem,go_sem_proc]
theorem E1c(p:AABB)(s:Shape)(t:Transform)(h0:s.Vertices.length≤1048576):A5 Tryz.prog A6r [.agg s.enc, .agg t.enc, .fptr p.enc] [] (.sc (.bool (A0b (A2d s t) p))) []:=by refine en1 hm A1 Tryz.func71 rfl rfl ?_;simp only[go_sem,go_sem_proc];refine A0 (C62 s t h0) rfl ?_;simp only[go_sem,go_sem_proc];refine A0 (B22 (A2d s t) p) rfl ?_;simp only[go_sem,go_sem_proc]
def D72(w:Api.World)(p:Vec)(mask:Int):List Int:=bwL w mask fun s t=>U1 s t p
def D7e(w:Api.World)(p:AABB)(mask:Int):List Int:=bwL w mask fun s t=>A0b (A2d s t) p
theorem B4p(w:Api.World)(p:Vec)(mask:Int)(hw:Wsm w)(hq: ∀b∈w.Bodies,b.Fixtures.length≤1000)(hq2:w.Bodies.length≤1000):A5 Tryz.prog B5c [.agg w.enc, .agg p.enc, .sc (.int .i64 mask)] [] (B4 1 K4 0 (D72 w p mask)) []:=by refine en1 hm A1 Tryz.func37 rfl rfl ?_;simp only[go_sem,go_sem_proc];refine P2 (A9z w mask A5h p.enc (fun s t=>U1 s t p) hw hq hq2 (by simp[C9,AV.ids,Vec.enc]) rfl (fun s t h=>E1a p s t h)) ?_;simp only[P9,go_sem,go_sem_proc,Q4];exact B7 _
theorem B7y(w:Api.World)(p:AABB)(mask:Int)(hw:Wsm w)(hq: ∀b∈w.Bodies,b.Fixtures.length≤1000)(hq2:w.Bodies.length≤1000):A5 Tryz.prog B71 [.agg w.enc, .agg p.enc, .sc (.int .i64 mask)] [] (B4 1 K4 0 (D7e w p mask)) []:=by refine en1 hm A1 Tryz.func38 rfl rfl ?_;simp only[go_sem,go_sem_proc];refine P2 (A9z w mask A6r p.enc (fun s t=>A0b (A2d s t) p) hw hq hq2 (by simp[C9,AV.ids,Vec.enc,AABB.enc]) rfl (fun s t h=>E1c p s t h)) ?_;simp only[P9,go_sem,go_sem_proc,Q4];exact B7 _
end Go.Abs
end
section
namespace Go.Abs
open Go.Proofs
open Api
end Go.Abs
namespace Go.Api
open Go.Abs
structure A1q where
 Hit:RayHit
 Found:Bool
 Bodies:List Int
 NewID:Int
 Err:Int
 deriving DecidableEq,Inhabited
def A1q.enc(x:A1q):List AV:=[.sc (.int .i64 x.Hit.Body), .sc (.int .i64 x.Hit.Fixture), .sc (.int .i64 x.Hit.Fraction), .sc (.int .i64 x.Hit.Point.X), .sc (.int .i64 x.Hit.Point.Y), .sc (.int .i64 x.Hit.Normal.X), .sc (.int .i64 x.Hit.Normal.Y), .sc (.bool x.Found),B4 1 K4 0 x.Bodies, .sc (.int .i64 x.NewID), .sc (.int .i64 x.Err)]
def A1q.zero:List AV:= [.sc (.int .i64 0), .sc (.int .i64 0), .sc (.int .i64 0), .sc (.int .i64 0), .sc (.int .i64 0), .sc (.int .i64 0), .sc (.int .i64 0), .sc (.bool false), .sc (.slice none 0 0), .sc (.int .i64 0), .sc (.int .i64 0)]
attribute [go_sem] A1q.enc A1q.zero
@[go_sem] theorem E5r(x:A1q):A1q.mk x.Hit x.Found x.Bodies x.NewID x.Err=x:=rfl
end Go.Api
namespace Go.Abs
open Go.Proofs Api
theorem Y4(w:Api.World)(h:Wsm w):A5 Tryz.prog B7l [.agg w.enc] [] (.agg w.enc) []:=by
 obtain⟨h1,h2,h3,h4,h5,h6⟩:=h;refine D68 56 [(2,some (some 11))] hm A1 Tryz.func31 rfl ?_;simp only[go_sem,go_sem_proc];refine I4 [false] [(1,1)] (A8t w.Bodies h1) (by simp) (by simp) (by simp) (by simp) ?_;simp only[go_sem,go_sem_proc];refine I4 [false] [(1,2)] (A8k w.Joints h2) (by simp) (by simp) (by simp) (by simp) ?_;simp only[go_sem,go_sem_proc];refine I4 [false] [(1,3)] (A6j w.Contacts h3) (by simp) (by simp) (by simp) (by simp) ?_;simp only[go_sem,go_sem_proc];refine I4 [false] [(1,4)] (A6k w.Overlaps h4) (by simp) (by simp) (by simp) (by simp) ?_;simp only[go_sem,go_sem_proc];refine C6 hm (ι:= {i:Nat // i≤w.Bodies.length}) (fun i=> [(1, .share, .ptr 32 0 0 1),(2, .share, .ptr 48 0 0 1),(24, .share, .sl 1 0 w.Bodies.length w.Bodies.length),(25, .share, .sc (.int .i64 w.Bodies.length)),(26, .share, .sc (.int .i64 i.1))])
  (fun i=>(32, .box [.sc (.int .i64 w.Settings.TimeStep), .sc (.int .i64 w.Settings.Gravity.X), .sc (.int .i64 w.Settings.Gravity.Y), .sc (.int .i64 w.Settings.Iterations), .sc (.int .i64 w.Settings.SleepSteps),
 .sl 1 0 w.Bodies.length w.Bodies.length, .sl 2 0 w.Joints.length w.Joints.length, .sl 3 0 w.Contacts.length w.Contacts.length, .sl 4 0 w.Overlaps.length w.Overlaps.length, .sc (.int .i64 w.NextID), .sc (.int .i64 w.Frame)])::(48, .box World.zero)::A5p w 1 2 3 4) (fun i=>w.Bodies.length-i.1) ⟨0,by omega⟩ ?_ ?_
 ·refine B3 [] [] (by simp[A5p]) (by simp[A9,A5p]) (by simp) ?_;simp only[go_sem,go_sem_proc]
 ·rintro⟨i,hi⟩;simp only[go_sem,go_sem_proc];split
  ·rename_i hlt;have hlt:i<w.Bodies.length:=by omega
   refine⟨⟨by omega,by omega⟩,?_⟩;refine A0 (A8a (w.Bodies.getD i default) (h5 _ (D6 _ hlt))) rfl ?_;simp only[go_sem,go_sem_proc];refine⟨(by(repeat' (with_reducible apply And.intro)) <;> first |omega |(simp only[maxLen];omega)),?_⟩;refine B8 ⟨i+1,by omega⟩ (by show w.Bodies.length-(i+1)<w.Bodies.length-i;omega) (B3 [] [] (by simp[go_sem]) (by simp[go_sem]) (by simp[go_sem]) ?_);simp only[go_sem,go_sem_proc];exact⟨(by rw[IntKind.wrap_i64];omega),A9d (w.Bodies.getD i default) hlt rfl (B5s _ _ _ hlt)⟩
  ·rename_i hge;obtain rfl:i=w.Bodies.length:=by omega
   refine C6 hm (ι:= {i:Nat // i≤w.Contacts.length}) (fun i=> [(1, .share, .ptr 32 0 0 1),(2, .share, .ptr 48 0 0 1),(39, .share, .sl 3 0 w.Contacts.length w.Contacts.length),(40, .share, .sc (.int .i64 w.Contacts.length)),(41, .share, .sc (.int .i64 i.1))])
    (fun i=>(32, .box [.sc (.int .i64 w.Settings.TimeStep), .sc (.int .i64 w.Settings.Gravity.X), .sc (.int .i64 w.Settings.Gravity.Y), .sc (.int .i64 w.Settings.Iterations), .sc (.int .i64 w.Settings.SleepSteps),
 .sl 1 0 w.Bodies.length w.Bodies.length, .sl 2 0 w.Joints.length w.Joints.length, .sl 3 0 w.Contacts.length w.Contacts.length, .sl 4 0 w.Overlaps.length w.Overlaps.length, .sc (.int .i64 w.NextID), .sc (.int .i64 w.Frame)])::(48, .box World.zero)::A5p w 1 2 3 4) (fun i=>w.Contacts.length-i.1) ⟨0,by omega⟩ ?_ ?_
   ·refine B3 [] [] (by simp[A5p]) (by simp[A9,A5p]) (by simp) ?_;simp only[go_sem,go_sem_proc]
   ·rintro⟨i,hi⟩;simp only[go_sem,go_sem_proc];split
    ·rename_i hlt;have hlt:i<w.Contacts.length:=by omega
     refine⟨⟨by omega,by omega⟩,?_⟩;refine A0 (B14 (w.Contacts.getD i default).Manifold (h6 _ (D6 _ hlt))) rfl ?_;simp only[go_sem,go_sem_proc];refine⟨(by(repeat' (with_reducible apply And.intro)) <;> first |omega |(simp only[maxLen];omega)),?_⟩;refine B8 ⟨i+1,by omega⟩ (by show w.Contacts.length-(i+1)<w.Contacts.length-i;omega) (B3 [] [] (by simp[go_sem]) (by simp[go_sem]) (by simp[go_sem]) ?_);simp only[go_sem,go_sem_proc];exact⟨(by rw[IntKind.wrap_i64];omega),A9d (w.Contacts.getD i default) hlt rfl (B5s _ _ _ hlt)⟩
    ·rename_i hge;obtain rfl:i=w.Contacts.length:=by omega
     refine E3 [.thaw] [] [] rfl rfl (by simp[go_sem]) (by simp[go_sem]) (by simp) ?_;simp only[go_sem,go_sem_proc]
theorem D42(w:Api.World)(mask:Int)(c:Shape→Transform→Bool)(hq: ∀b∈w.Bodies,b.Fixtures.length≤1000)(hq2:w.Bodies.length≤1000):(bwL w mask c).length≤1000000:=by
 have h1:=D5e (mask:=mask) (C2z c) hq hq2
 have h2:=B25 (B1f (feR w mask (B5v c) []));rw[A9q]at h2;unfold bwL;omega
def rZ:RayHit:=⟨0,0,0,⟨0,0⟩,⟨0,0⟩⟩
theorem B7j(l:List Int):A5 Tryz.prog B4e [B4 1 K4 0 l] [] (.agg (⟨rZ,decide (0<(l.length:Int)),l,0,0⟩:A1q).enc) []:=by refine P7 8 [(2,some (some 11))] hm A1 Tryz.func36 rfl ?_;simp only[go_sem,go_sem_proc,rZ]
theorem B95(w:Api.World)(r:Request)(hw:Wsm w)(hr:Body.sm r.Input.Body)(h1:P5 w=0)(hq: ∀b∈w.Bodies,b.Fixtures.length≤1000)(hq2:w.Bodies.length≤1000):
  ∃x:Api.World×A1q,Wsm x.1∧x.2.Bodies.length≤1000000∧A5 Tryz.prog A9w [.agg w.enc, .agg r.enc] [] (.tup [.agg x.1.enc, .agg x.2.enc]) []:=by
 by_cases k1:r.Kind=1
 ·refine⟨(w,⟨C6r w r.From r.To r.Mask,decide (rcA w r.From r.To r.Mask≠ []),[],0,0⟩),hw,Nat.zero_le _,?_⟩;refine P6 81 [(4,some (some 11)),(5,some (some 11))] hm A1 Tryz.func11 rfl ?_;simp only[go_sem,go_sem_proc];refine A0 (H8 w hw) rfl ?_;simp only[go_sem,go_sem_proc];rw[if_neg (by simpa using h1)];refine A0 (Y4 w hw) rfl ?_;simp only[go_sem,go_sem_proc];rw[if_pos (by simp[k1])];refine A0 (B5y w r.From r.To r.Mask hw hq hq2) rfl ?_;simp only[go_sem,go_sem_proc]
  all_goals((repeat' (with_reducible apply And.intro)) <;> first |with_reducible rfl |rfl |exact B7 _ |exact C1 rfl |omega)
 by_cases k2:r.Kind=2
 ·refine⟨(w,⟨rZ,decide (0<((D72 w r.From r.Mask).length:Int)),D72 w r.From r.Mask,0,0⟩),hw,D42 w r.Mask _ hq hq2,?_⟩;refine P6 81 [(4,some (some 11)),(5,some (some 11))] hm A1 Tryz.func11 rfl ?_;simp only[go_sem,go_sem_proc];refine A0 (H8 w hw) rfl ?_;simp only[go_sem,go_sem_proc];rw[if_neg (by simpa using h1)];refine A0 (Y4 w hw) rfl ?_;simp only[go_sem,go_sem_proc];rw[if_neg (by simpa using k1)];rw[if_pos (by simp[k2])];refine A0 (B4p w r.From r.Mask hw hq hq2) rfl ?_;simp only[go_sem,go_sem_proc];refine A0 (B7j (D72 w r.From r.Mask)) rfl ?_;simp only[go_sem,go_sem_proc]
  all_goals((repeat' (with_reducible apply And.intro)) <;> first |with_reducible rfl |rfl |exact B7 _ |exact C1 rfl |omega)
 by_cases k3:r.Kind=3
 ·refine⟨(w,⟨rZ,decide (0<((D7e w ⟨r.From,r.To⟩ r.Mask).length:Int)),D7e w ⟨r.From,r.To⟩ r.Mask,0,0⟩),hw,D42 w r.Mask _ hq hq2,?_⟩;refine P6 81 [(4,some (some 11)),(5,some (some 11))] hm A1 Tryz.func11 rfl ?_;simp only[go_sem,go_sem_proc];refine A0 (H8 w hw) rfl ?_;simp only[go_sem,go_sem_proc];rw[if_neg (by simpa using h1)];refine A0 (Y4 w hw) rfl ?_;simp only[go_sem,go_sem_proc];rw[if_neg (by simpa using k1)];rw[if_neg (by simpa using k2)];rw[if_pos (by simp[k3])];refine A0 (B7y w ⟨r.From,r.To⟩ r.Mask hw hq hq2) rfl ?_;simp only[go_sem,go_sem_proc];refine A0 (B7j (D7e w ⟨r.From,r.To⟩ r.Mask)) rfl ?_;simp only[go_sem,go_sem_proc]
  all_goals((repeat' (with_reducible apply And.intro)) <;> first |with_reducible rfl |rfl |exact B7 _ |exact C1 rfl |omega)
 by_cases k4:r.Kind=4
 ·obtain⟨x,hx,hc⟩:=C9w w r.Input hw hr;by_cases h2:x.2.2=0
  ·refine⟨(x.1,⟨rZ,false,[],x.2.1,0⟩),hx,Nat.zero_le _,?_⟩;refine P6 81 [(4,some (some 11)),(5,some (some 11))] hm A1 Tryz.func11 rfl ?_;simp only[go_sem,go_sem_proc];refine A0 (H8 w hw) rfl ?_;simp only[go_sem,go_sem_proc];rw[if_neg (by simpa using h1)];refine A0 (Y4 w hw) rfl ?_;simp only[go_sem,go_sem_proc];rw[if_neg (by simpa using k1)];rw[if_neg (by simpa using k2)];rw[if_neg (by simpa using k3)];rw[if_pos (by simp[k4])];refine A0 hc rfl ?_;simp only[go_sem,go_sem_proc];rw[if_neg (by simpa using h2)]
   all_goals((repeat' (with_reducible apply And.intro)) <;> first |with_reducible rfl |rfl |exact B7 _ |exact C1 rfl |omega)
  ·refine⟨(w,⟨rZ,false,[],0,x.2.2⟩),hw,Nat.zero_le _,?_⟩;refine P6 81 [(4,some (some 11)),(5,some (some 11))] hm A1 Tryz.func11 rfl ?_;simp only[go_sem,go_sem_proc];refine A0 (H8 w hw) rfl ?_;simp only[go_sem,go_sem_proc];rw[if_neg (by simpa using h1)];refine A0 (Y4 w hw) rfl ?_;simp only[go_sem,go_sem_proc];rw[if_neg (by simpa using k1)];rw[if_neg (by simpa using k2)];rw[if_neg (by simpa using k3)];rw[if_pos (by simp[k4])];refine A0 hc rfl ?_;simp only[go_sem,go_sem_proc];rw[if_pos (by simpa using h2)]
   all_goals((repeat' (with_reducible apply And.intro)) <;> first |with_reducible rfl |rfl |exact B7 _ |exact C1 rfl |omega)
 refine⟨(w,⟨rZ,false,[],0,10⟩),hw,Nat.zero_le _,?_⟩;refine P6 81 [(4,some (some 11)),(5,some (some 11))] hm A1 Tryz.func11 rfl ?_;simp only[go_sem,go_sem_proc];refine A0 (H8 w hw) rfl ?_;simp only[go_sem,go_sem_proc];rw[if_neg (by simpa using h1)];refine A0 (Y4 w hw) rfl ?_;simp only[go_sem,go_sem_proc];rw[if_neg (by simpa using k1)];rw[if_neg (by simpa using k2)];rw[if_neg (by simpa using k3)];rw[if_neg (by simpa using k4)]
 all_goals((repeat' (with_reducible apply And.intro)) <;> first |with_reducible rfl |rfl |exact B7 _ |exact C1 rfl |omega)
end Go.Abs
end
section
namespace Go.Abs
open Go.Proofs
open Api
def A09(w:Api.World):List AV:= [.sc (.bool true), .sc (.int .i64 w.Settings.TimeStep), .sc (.int .i64 w.Settings.Gravity.X), .sc (.int .i64 w.Settings.Gravity.Y), .sc (.int .i64 w.Settings.Iterations), .sc (.int .i64 w.Settings.SleepSteps),B4 20 Body.enc default w.Bodies,B4 24 Joint.enc default w.Joints,B4 7 D5.enc default w.Contacts,B4 4 B2.enc default w.Overlaps, .sc (.int .i64 w.NextID), .sc (.int .i64 w.Frame),
 .sc (.bool false), .sc (.int .i64 0), .sc (.int .i64 0), .sc (.int .i64 0), .sc (.int .i64 0), .sc (.int .i64 0), .sc (.slice none 0 0), .sc (.slice none 0 0), .sc (.slice none 0 0), .sc (.slice none 0 0), .sc (.int .i64 0), .sc (.int .i64 0), .sc (.slice none 0 0), .sc (.slice none 0 0), .sc (.slice none 0 0), .sc (.slice none 0 0)]
theorem B0g(w:Api.World):A5 Tryz.prog B0h [.ptr 1 0 0 1] [(1, .box (A09 w))] (.sc (.bool false)) [(1, .box (A09 w))]:=by refine R8 hm A1 Tryz.func32 rfl rfl ?_;simp only[go_sem,go_sem_proc,A09];refine E3 [.share] [] [] rfl rfl (by simp[go_sem]) (by simp[A9,go_sem]) (by simp[go_sem,A9]) ?_;simp only[go_sem,go_sem_proc,A09]
theorem D9k(w:Api.World)(hw:Wsm w)(h1:P5 w=0):A5 Tryz.prog C77 [.agg w.enc] [] (.tup [.ptr 1 0 0 1, .sc (.int .i64 0)]) [(1, .box (A09 w))]:=by refine D7s hm A1 Tryz.func8 rfl rfl ?_;simp only[go_sem,go_sem_proc];refine A0 (H8 w hw) rfl ?_;simp only[go_sem,go_sem_proc];rw[if_neg (by simpa using h1)];refine A0 (Y4 w hw) rfl ?_;simp only[go_sem,go_sem_proc];refine E3 [.share, .share] [(1,176)] [] rfl rfl (by simp[go_sem]) (by simp[A9,go_sem]) (by simp[go_sem,A9]) ?_;simp only[go_sem,go_sem_proc,A09]
theorem C9u(w:Api.World):A5 Tryz.prog B0a [.ptr 1 0 0 1] [(1, .box (A09 w))] (.sc (.int .i64 0)) [(1, .box (A09 w))]:=by refine R8 hm A1 Tryz.func16 rfl rfl ?_;simp only[go_sem,go_sem_proc,A09];refine I4 [true] [(1,1)] (B0g w) (by simp) (by simp) (by simp) (by simp[go_sem]) ?_;simp only[go_sem,go_sem_proc,A09];refine E3 [.share] [] [] rfl rfl (by simp[go_sem]) (by simp[A9,go_sem]) (by simp[go_sem,A9]) ?_;simp only[go_sem,go_sem_proc,A09]
theorem D4i(w:Api.World)(hw:Wsm w):A5 Tryz.prog B2l [.ptr 1 0 0 1] [(1, .box (A09 w))] (.agg w.enc) [(1, .box (A09 w))]:=by refine D68 11 [(2,some (some 11))] hm A1 Tryz.func15 rfl ?_;simp only[go_sem,go_sem_proc,A09];refine I4 [true] [(1,1)] (B0g w) (by simp) (by simp) (by simp) (by simp[go_sem]) ?_;simp only[go_sem,go_sem_proc,A09];refine A0 (Y4 w hw) rfl ?_;simp only[go_sem,go_sem_proc];refine E3 [.thaw] [] [] rfl rfl (by simp[go_sem]) (by simp[A9,go_sem]) (by simp[go_sem,A9]) ?_;simp only[go_sem,go_sem_proc,A09]
theorem D2a(w:Api.World)(r:Request)(x:Api.World×A1q)(hE:A5 Tryz.prog A9w [.agg w.enc, .agg r.enc] [] (.tup [.agg x.1.enc, .agg x.2.enc]) []):
  A5 Tryz.prog B06 [.ptr 1 0 0 1, .agg r.enc] [(1, .box (A09 w))] (.tup [.agg x.2.enc, .sc (.bool true), .sc (.int .i64 0)]) [(1, .box (A09 x.1))]:=by
 refine F3k 53 [(4,some (some 11)),(5,none),(6,none)] hm A1 Tryz.func9 rfl ?_;simp only[go_sem,go_sem_proc,A09];refine I4 [true] [(1,1)] (B0g w) (by simp) (by simp) (by simp) (by simp[go_sem]) ?_;simp only[go_sem,go_sem_proc,A09];refine A0 hE rfl ?_;simp only[go_sem,go_sem_proc];refine E3 [.thaw, .share, .share] [] [] rfl rfl (by simp[go_sem]) (by simp[A9,go_sem]) (by simp[go_sem,A9]) ?_;simp only[go_sem,go_sem_proc,A09]
end Go.Abs
end
section
namespace Go.Abs
open Go.Proofs
open Api
theorem A5s(x:Api.Input):A5 Tryz.prog C1t [B4 49 Api.Input.enc default [x]] [] (.sc (.bool (smI x.Body.Fixtures))) []:=by
 refine en1 hm A1 Tryz.func20 rfl rfl ?_;simp only[go_sem,go_sem_proc];refine B07 hm 3 ?_;simp only[A66,List.length_cons,List.length_nil,go_sem,go_sem_proc];simp only[Int.cast_ofNat_Int,Nat.reduceAdd,List.getD_cons_zero,Int.reduceToNat,go_sem,go_sem_proc];refine⟨(by(repeat' (with_reducible apply And.intro)) <;> first |omega |(simp only[maxLen];omega)),?_⟩;refine C6 hm (ι:= {k:Nat // k≤x.Body.Fixtures.length∧k≤6∧(x.Body.Fixtures.take k).all smV=true})
  (fun k=> [(0, .share,B4 49 Api.Input.enc default [x]),(3, .share, .sc (.int .i64 0)),(4, .share,B4 10 Fixture.enc default x.Body.Fixtures),(5, .share, .sc (.int .i64 k.1))])
  (fun _=> []) (fun k=>6-k.1) ⟨0,by omega,by omega,rfl⟩ ?_ ?_
 ·refine B3 [] [] (by simp) (by simp[A9]) (by simp) ?_;simp only[go_sem,go_sem_proc]
 ·rintro⟨k,hk,hk6,ht⟩;simp only[go_sem,go_sem_proc];by_cases h:k<x.Body.Fixtures.length∧k<6
  ·rw[if_pos (by rw[if_pos (by omega)];exact decide_eq_true (by omega))];refine⟨by omega,?_⟩;by_cases he:(x.Body.Fixtures.getD k default).Shape.Vertices.length≤12
   ·rw[if_neg (by omega)];refine B8 ⟨k+1,by omega,by omega,C4q default ht h.1 (decide_eq_true he)⟩ (by show 6-(k+1)<6-k;omega) (B3 [] [] (by simp) (by simp[A9]) (by simp) ?_);simp only[go_sem,go_sem_proc];exact(by rw[IntKind.wrap_i64];omega)
   ·rw[if_pos (by omega)];unfold smI;rw[D3c h.2 h.1 (decide_eq_false he)];rfl
  ·rw[if_neg (by split <;> simp <;> omega)];have hend:(x.Body.Fixtures.take 6).all smV=true:=D1k ht (by omega) hk hk6;by_cases h6:x.Body.Fixtures.length≤6
   ·rw[if_neg (by omega)];simp only[A66,go_sem,go_sem_proc];simp only[smI,hend,h6,decide_true,Bool.and_true];have e:IntKind.i64.wrap (0+1)=1:=by decide
    simp only[e];rw[if_neg (by simp)];rfl
   ·rw[if_pos (by omega)];simp[smI,h6]
end Go.Abs
end
section
namespace Go.Abs
open Go.Proofs
open Api
def C1d(b:Body):Prop:=b.Fixtures.length≤3∧ ∀f∈b.Fixtures,f.Shape.Vertices.length≤8
def A9j(w:Api.World):Prop:=(w.Bodies.length≤7∧w.Joints.length≤6∧w.Contacts.length≤40∧w.Overlaps.length≤40∧w.Settings.Iterations≤16)∧(∀b∈w.Bodies,C1d b)∧ ∀c∈w.Contacts,c.Manifold.Points.length≤4
noncomputable instance(b:Body):Decidable (C1d b):=Classical.propDecidable _
noncomputable instance(w:Api.World):Decidable (A9j w):=Classical.propDecidable _
theorem D97 {w:Api.World}(h:A9j w):Wsm w:=by
 obtain⟨⟨h1,h2,h3,h4,_⟩,h5,h6⟩:=h;refine⟨by omega,by omega,by omega,by omega,fun b hb=> ?_,fun c hc=> ?_⟩
 ·obtain⟨a1,a2⟩:=h5 b hb;exact⟨by omega,fun f hf=>by have:=a2 f hf;show f.Shape.Vertices.length≤_;omega⟩
 ·have:=h6 c hc
  show c.Manifold.Points.length≤_;omega
theorem A36 {α:Type}{l:List α}{i:Nat}{P:α→Prop}(d:α)(h: ∀x∈l.take i,P x)(hi:i<l.length)(hp:P (l.getD i d)): ∀x∈l.take (i+1),P x:=by
 intro x hx;rw[A1e d hi]at hx;rcases List.mem_append.1 hx with k |k
 ·exact h x k
 ·rw[List.mem_singleton]at k;subst k;exact hp
theorem C4x(b:Body):A5 Tryz.prog C4t [.agg b.enc] [] (.sc (.bool (decide (C1d b)))) []:=by
 refine en1 hm A1 Tryz.func47 rfl rfl ?_;simp only[go_sem,go_sem_proc];by_cases h0:b.Fixtures.length≤3
 ·rw[if_neg (by omega)];refine C6 hm (ι:= {k:Nat // k≤b.Fixtures.length∧ ∀f∈b.Fixtures.take k,f.Shape.Vertices.length≤8}) (fun k=> [(1, .thaw, .fptr b.enc),(3, .share, .sc (.int .i64 (k.1:Nat)))]) (fun _=> []) (fun k=>b.Fixtures.length-k.1) ⟨0,Nat.zero_le _,fun f hf=>by simp at hf⟩ ?_ ?_
  ·refine B3 [] [] (by simp) (by simp[A9]) (by simp) ?_;simp only[go_sem,go_sem_proc,Q4]
  ·rintro⟨k,hk,ht⟩;simp only[go_sem,go_sem_proc];split
   ·rename_i hlt;have hlt:k<b.Fixtures.length:=by omega
    refine⟨⟨by omega,by omega⟩,?_⟩;by_cases he:(b.Fixtures.getD k default).Shape.Vertices.length≤8
    ·rw[if_neg (by omega)];refine B8 ⟨k+1,hlt,A36 default ht hlt he⟩ (by show b.Fixtures.length-(k+1)<b.Fixtures.length-k;omega) (B3 [] [] (by simp) (by simp[A9]) (by simp) ?_);simp only[go_sem,go_sem_proc,Q4];exact(by rw[IntKind.wrap_i64];omega)
    ·rw[if_pos (by omega)];rw[decide_eq_false (fun h=>he (h.2 _ (D6 default hlt)))]
   ·rename_i hge;obtain rfl:k=b.Fixtures.length:=by omega
    rw[List.take_length]at ht;exact(decide_eq_true (p:=C1d b) ⟨h0,ht⟩).symm
 ·rw[if_pos (by omega)];rw[decide_eq_false (fun h=>h0 h.1)]
theorem B7t(w:Api.World):A5 Tryz.prog C91 [.agg w.enc] [] (.sc (.bool (decide (A9j w)))) []:=by
 refine en1 hm A1 Tryz.func21 rfl rfl ?_;simp only[go_sem,go_sem_proc];by_cases h0:w.Bodies.length≤7∧w.Joints.length≤6∧w.Contacts.length≤40∧w.Overlaps.length≤40∧w.Settings.Iterations≤16
 ·rw[if_neg (by
   obtain⟨a1,a2,a3,a4,a5⟩:=h0;rw[if_neg (by omega),decide_eq_false (by omega),decide_eq_false (by omega),decide_eq_false (by omega),decide_eq_false (by omega)];simp)]
  refine C6 hm (ι:= {k:Nat // k≤w.Bodies.length∧ ∀b∈w.Bodies.take k,C1d b}) (fun k=> [(1, .thaw, .fptr w.enc),(3, .share, .sc (.int .i64 (k.1:Nat)))]) (fun _=> []) (fun k=>w.Bodies.length-k.1) ⟨0,Nat.zero_le _,fun f hf=>by simp at hf⟩ ?_ ?_
  ·refine B3 [] [] (by simp) (by simp[A9]) (by simp) ?_;simp only[go_sem,go_sem_proc,Q4]
  ·rintro⟨k,hk,ht⟩;simp only[go_sem,go_sem_proc];split
   ·rename_i hlt;have hlt:k<w.Bodies.length:=by omega
    refine⟨⟨by omega,by omega⟩,?_⟩;refine A0 (C4x (w.Bodies.getD k default)) rfl ?_;simp only[go_sem,go_sem_proc];by_cases he:C1d (w.Bodies.getD k default)
    ·rw[if_neg (by rw[decide_eq_true he];simp)];refine B8 ⟨k+1,hlt,A36 default ht hlt he⟩ (by show w.Bodies.length-(k+1)<w.Bodies.length-k;omega) (B3 [] [] (by simp) (by simp[A9]) (by simp) ?_);simp only[go_sem,go_sem_proc,Q4];exact(by rw[IntKind.wrap_i64];omega)
    ·rw[if_pos (by rw[decide_eq_false he])];exact(decide_eq_false (fun h:A9j w=>he (h.2.1 _ (D6 default hlt)))).symm
   ·rename_i hge;obtain rfl:k=w.Bodies.length:=by omega
    rw[List.take_length]at ht;refine C6 hm (ι:= {k:Nat // k≤w.Contacts.length∧ ∀c∈w.Contacts.take k,c.Manifold.Points.length≤4}) (fun k=> [(1, .thaw, .fptr w.enc),(4, .share, .sc (.int .i64 (k.1:Nat)))]) (fun _=> []) (fun k=>w.Contacts.length-k.1) ⟨0,Nat.zero_le _,fun f hf=>by simp at hf⟩ ?_ ?_
    ·refine B3 [] [] (by simp) (by simp[A9]) (by simp) ?_;simp only[go_sem,go_sem_proc,Q4]
    ·rintro⟨k,hk,hc⟩;simp only[go_sem,go_sem_proc];split
     ·rename_i hlt;have hlt:k<w.Contacts.length:=by omega
      refine⟨⟨by omega,by omega⟩,?_⟩;by_cases he:(w.Contacts.getD k default).Manifold.Points.length≤4
      ·rw[if_neg (by omega)];refine B8 ⟨k+1,hlt,A36 default hc hlt he⟩ (by show w.Contacts.length-(k+1)<w.Contacts.length-k;omega) (B3 [] [] (by simp) (by simp[A9]) (by simp) ?_);simp only[go_sem,go_sem_proc,Q4];exact(by rw[IntKind.wrap_i64];omega)
      ·rw[if_pos (by omega)];exact(decide_eq_false (fun h:A9j w=>he (h.2.2 _ (D6 default hlt)))).symm
     ·rename_i hge;obtain rfl:k=w.Contacts.length:=by omega
      rw[List.take_length]at hc;exact(decide_eq_true (p:=A9j w) ⟨h0,ht,hc⟩).symm
 ·rw[if_pos (by
   apply Classical.byContradiction;intro hn;apply h0;simp only[Bool.or_eq_true,decide_eq_true_eq,not_or]at hn;obtain⟨⟨⟨hn1,hn2⟩,hn3⟩,hn4⟩:=hn;by_cases a1:7<(w.Bodies.length:Int)
   ·rw[if_pos a1]at hn1;exact absurd rfl hn1
   ·rw[if_neg a1]at hn1;simp only[decide_eq_true_eq]at hn1;omega)]
  exact(decide_eq_false (fun h:A9j w=>h0 h.1)).symm
end Go.Abs
end
