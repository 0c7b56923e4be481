/- A part of the proof: contracts of functions that the statement reaches. -/
import Derived.Test.YtchcbiiammkhgaaGreatMT
import Derived.Laws.Bits64
set_option linter.unusedSimpArgs false
set_option linter.unusedVariables false
set_option linter.unnecessarySimpa false
set_option maxRecDepth 100000
set_option maxHeartbeats 2000000
noncomputable section
namespace Go.Abs
open Go.Proofs
open Api
theorem B27(l:List Api.Input)(hl:A5r l):cA_ B10 [A4 49 Api.Input.enc dF_ l] [] (A4 49 Api.Input.enc dF_ l) []:=by
 have hln:=hl.1;refine F8c hm A6 Tryz.func66 rfl rfl ?_;refine B2 [(0, .cA,A4 49 Api.Input.enc dF_ l)] [] (C7 hm ?_) ?_
 ·refine st_ ?_;exact B0 [] [] se_
 refine B2 [(0, .cA,A4 49 Api.Input.enc dF_ l),(3, .eZ, .sl 1 0 (l.take (0)).length (l.take (0)).length)] [(1, .arr 49 (A9 Api.Input.enc dF_ (l.take (0))))] (C7 hm ?_) ?_
 ·simp only[go_sem,go_sem_proc,List.take_zero,List.length_nil];exact B0 [] [1] se_
 refine B2 [(0, .cA,A4 49 Api.Input.enc dF_ l),(3, .cA, .sl 1 0 (l.take (l.length)).length (l.take (l.length)).length)] [(1, .arr 49 (A9 Api.Input.enc dF_ (l.take (l.length))))] (B2 [(0, .cA,A4 49 Api.Input.enc dF_ l),(3, .cA, .sl 1 0 (l.take (0)).length (l.take (0)).length),(6, .cA,A4 49 Api.Input.enc dF_ l),(7, .cA,sI l.length),(8, .cA,sI (0:Nat))] [(1, .arr 49 (A9 Api.Input.enc dF_ (l.take (0))))] (C7 hm ?_) (Y7 ?_)) ?_
 ·refine st_ ?_;exact B0 [] [] se_
 ·refine B1 hm (ι:= {k:Nat // k<=l.length}) (λk=> [(0, .cA,A4 49 Api.Input.enc dF_ l),(3, .cA, .sl 1 0 (l.take (k.1)).length (l.take (k.1)).length),(6, .cA,A4 49 Api.Input.enc dF_ l),(7, .cA,sI l.length),(8, .cA,sI (k.1:Nat))]) (λk=> [(1, .arr 49 (A9 Api.Input.enc dF_ (l.take (k.1))))]) (λk=>l.length-k.1) ⟨0,Nat.zero_le _⟩ ?_ ?_
  ·exact B0 [] [] se_
  ·rintro⟨k,hk⟩;dsimp only;have hln2:(l.take k).length=k:=by rw[List.length_take];omega
   by_cases hlt:k<l.length;rotate_left
   ·obtain rfl:k=l.length:=by omega
    refine st_ ?_;rw[if_neg (by omega)];exact B0 [] [] se_
   have hx:=hl.2 _ (B8 (l:=l) (i:=k) dF_ hlt)
   have hn:l.take (k+1)=l.take k++ [l.getD k dF_]:=L5 dF_ hlt;refine st_ ?_;rw[if_pos (by omega)];generalize l.getD k dF_=x at hn hx⊢;refine⟨bE_,?_⟩;refine A0 (C81 x hx) rfl (st_ ?_);have hby:(Tryz.prog.types[60]).bytes=384:=by kernel_rfl
   refine⟨⟨by first |omega |(simp only[hby];omega),by simp only[maxLen];omega⟩,?_⟩;refine A8 ⟨k+1,by omega⟩ (by show l.length-(k+1)<l.length-k;omega) ?_;simp only[hn];generalize l.take k=m at hln2⊢;refine B0 [] [] (st_ ?_)
   (repeat' (with_reducible apply And.intro)) <;> first |exact A1g x rfl rfl |(rw[List.length_append];rfl) |exact eE_
 rw[List.take_length];exact C7 hm se_
theorem F4k(l:List Api.World)(hl:l.length<=1048576):cA_ B37 [A4 11 World.enc dF_ l] [] (.sl 1 0 l.length l.length) [(1, .arr 11 (A9 World.enc dF_ l))]:=by
 by_cases hn:l= []
 ·subst hn;refine D5.nil_split (g:=I8 World.enc dF_ ([]:List Api.World)) [] [] ?_ (λa c=> ?_)
  ·refine I7 hm A6 Tryz.func72 rfl rfl (st_ ?_);refine B6 [.eZ] [] [1] ?_;simp only[go_sem,go_sem_proc]
  ·refine I7 hm A6 Tryz.func72 rfl rfl (st_ ?_);refine⟨by simp[maxLen],?_⟩;refine B6 [.cA] [(1,96)] [] (st_ ?_);exact⟨rfl,rfl,λi hi=>absurd hi (by simp)⟩
 ·have hpos:0<l.length:=List.length_pos_iff.2 hn
  refine I7 hm A6 Tryz.func72 rfl rfl (st_ ?_);refine⟨hpos,⟨by omega,by simp only[maxLen];omega⟩,?_⟩;refine B6 [.cA] [(1,96)] [] ?_;simp only[go_sem,go_sem_proc]
theorem F4j(l:List Int)(hl:l.length<=1048576):cA_ A4v [A4 1 A1n 0 l] [] (.sl 1 0 l.length l.length) [(1, .arr 1 (A9 A1n 0 l))]:=by
 by_cases hn:l= []
 ·subst hn;refine D5.nil_split (g:=I8 A1n 0 ([]:List Int)) [] [] ?_ (λa c=> ?_)
  ·refine I7 hm A6 Tryz.func69 rfl rfl (st_ ?_);refine B6 [.eZ] [] [1] ?_;simp only[go_sem,go_sem_proc]
  ·refine I7 hm A6 Tryz.func69 rfl rfl (st_ ?_);refine⟨by simp[maxLen],?_⟩;refine B6 [.cA] [(1,96)] [] (st_ ?_);exact⟨rfl,rfl,λi hi=>absurd hi (by simp)⟩
 ·have hpos:0<l.length:=List.length_pos_iff.2 hn
  refine I7 hm A6 Tryz.func69 rfl rfl (st_ ?_);refine⟨hpos,⟨by omega,by simp only[maxLen];omega⟩,?_⟩;refine B6 [.cA] [(1,96)] [] ?_;simp only[go_sem,go_sem_proc]
def A1c(l:List Api.Input)(i1:Nat)(s1:Unit):(Unit) ⊕ (Int):=let v1:=(A0l (l.getD i1 dF_));if(v1 != 0)=true then(.inr 20)else(.inl ())
def I4(e:List Api.Input)(l:List Api.Input):Int:=(match J8 (A1c l) l.length ()with | .inr r=>r | .inl s1=>if 32<(IntKind.i64.wrap ((e.length:Int)+(l.length:Int)))then(11)else(0))
theorem A2d(e:List Api.Input)(l:List Api.Input)(he:e.length<=4096)(hl:l.length<=4096)(hl2: ∀i,i<l.length->cF.sm (l.getD i dF_).cF):cA_ C3b [A4 49 Api.Input.enc dF_ e,A4 49 Api.Input.enc dF_ l] [] (sI (I4 e l)) []:=by
 refine en1 hm A6 Tryz.func62 rfl rfl ?_;have:=A0q
 have:=I4.eq_1 e l
 have:=λi_ s_=>A1c.eq_1 l i_ s_
 have:=λx_ Q_ σ_=> @lp_ Tryz.prog Tryz.f62.ntmps [] x_ Q_ σ_ hm (IE (A1c l) ()) (λ_=>True) l.length (λi_=> [(0, .cA,A4 49 Api.Input.enc dF_ e),(1, .cA,A4 49 Api.Input.enc dF_ l),(7, .cA,A4 49 Api.Input.enc dF_ l),(8, .cA,sI (l.length:Int)),(9, .cA,sI (i_:Int))]) (λi_=> []) [] rfl (λ_ _=>trivial) (by simp[go_sem]) (by simp[go_sem,D3]) (by simp[go_sem]);exact B2n
theorem F4l(s:Ses)(x:Api.World)(cap:Int)(hl:s.ws.length<=1000)(hc:(s.ws.length:Int)+1<=cap):cA_ A2e [.ptr 1 0 3 1, .agg x.enc,sI cap] (rsO s) (.tup []) (rsO {s with ws:=s.ws++ [x]}):=by refine A26 hm A6 Tryz.func59 rfl rfl (st_ ?_);refine⟨⟨by omega,by simp only[maxLen];omega⟩,?_⟩;rw[if_neg (by omega)];exact B6 [] [] [] se_
def C30(s:Ses)(old:List Api.World):List (Nat×A7):= [(1, .box [.sl 2 0 s.ins.length s.ins.length, .sl 3 0 s.hs.length s.hs.length,sI s.re, .sl 5 0 s.ws.length s.ws.length,sI s.win]),(2, .arr 1 (A9 B00 dF_ s.ins)),(3, .arr 1 (A9 A1n 0 s.hs)),(4, .frz 11 (A9 World.enc dF_ old)),(5, .arr 11 (A9 World.enc dF_ s.ws))]
attribute [go_sem] C30
theorem F5q {α:Type}{z:Nat}{enc:α->List AV}{d:α}(l:List α)(k:Nat):A4 z enc d (l.drop k)= .dsl z (l.length-k) (λi=>(A9 enc d l).g (k+i)):=by unfold A4;rw[List.length_drop];congr 1;funext i;simp only[I8,A9,List.getD,List.getElem?_drop]
theorem F4m(s:Ses)(x:Api.World)(cap:Int)(hl:s.ws.length<=1000)(hc: ¬(s.ws.length:Int)+1<=cap):cA_ A2e [.ptr 1 0 3 1, .agg x.enc,sI cap] (rsO s) (.tup []) (C30 {s with ws:=(s.ws++ [x]).drop 1} (s.ws++ [x])):=by
 have hC:=F4k ((s.ws++ [x]).drop 1) (by rw[List.length_drop,List.length_append,List.length_singleton];omega);rw[F5q]at hC;refine G6q hm A6 Tryz.func59 rfl rfl ?_;refine B2 [(0, .cA, .ptr 1 0 3 1),(2, .cA,sI cap),(4, .cA, .ptr 80 0 0 1)] ([(80, .box x.enc)]++rsO s) (C7 hm ?_) ?_
 ·refine st_ ?_;exact B0 [] [] se_
 refine B2 [(0, .cA, .ptr 1 0 3 1),(2, .cA,sI cap),(4, .cA, .ptr 80 0 0 1)] ([(80, .box x.enc)]++rsO {s with ws:=s.ws++ [x]}) (C7 hm ?_) ?_
 ·refine st_ ?_;refine⟨⟨by omega,by simp only[maxLen];omega⟩,?_⟩;exact B0 [] [] se_
 refine B2 [(0, .cA, .ptr 1 0 3 1),(2, .cA,sI cap),(4, .cA, .ptr 80 0 0 1),(22, .cA,sB true)] ([(80, .box x.enc)]++rsO {s with ws:=s.ws++ [x]}) (C7 hm ?_) ?_
 ·simp only[go_sem,go_sem_proc,List.length_append,List.length_singleton];refine B0 [] [] ?_;simp only[go_sem,go_sem_proc]
  all_goals first |exact eE_ |(simp;omega)
 refine D96 4 11 (A9 World.enc dF_ (s.ws++ [x])) (by simp only[go_sem,go_sem_proc]) ?_;refine C7 hm (st_ ?_);rw[show((((s.ws++ [x]).length:Nat):Int)-1).toNat=(s.ws++ [x]).length-1 by omega];refine⟨⟨by omega,by rw[List.length_append,List.length_singleton];omega,by omega⟩,?_⟩;refine J2 ev_ K0 hC (st_ ?_);refine B6 [] [(5,480)] [] (st_ ?_)
 trace_state
 all_goals exact eE_
def G8h(h n:BitVec 64):BitVec 64:=
 (((h ^^^ n)*11400714819323198485#64 ^^^ ((h ^^^ n)*11400714819323198485#64) >>> 32)*15485907386658061715#64) ^^^
   (((h ^^^ n)*11400714819323198485#64 ^^^ ((h ^^^ n)*11400714819323198485#64) >>> 32)*15485907386658061715#64) >>> 29
def mix(h n:Int):Int:=(G8h (BitVec.ofInt 64 h) (BitVec.ofInt 64 n)).toNat
theorem F73(b:BitVec 64):IntKind.u64.wrap (b.toNat:Int)=b.toNat:=by rw[IntKind.wrap_u64];have:=b.isLt;omega
theorem F70(b:BitVec 64):BitVec.ofInt 64 (b.toNat:Int)=b:=by apply BitVec.eq_of_toNat_eq;have:=b.isLt;rw[BitVec.toNat_ofInt];omega
theorem F5b(n:Int):BitVec.ofInt 64 (IntKind.u64.wrap n)=BitVec.ofInt 64 n:=by
 apply BitVec.eq_of_toNat_eq;rw[IntKind.wrap_u64,BitVec.toNat_ofInt,BitVec.toNat_ofInt];show(n%18446744073709551616%18446744073709551616).toNat=(n%18446744073709551616).toNat
 omega
theorem F5a(b:BitVec 64)(c:Nat):IntKind.u64.wrap ((b.toNat:Int)*(c:Int))=((b*BitVec.ofNat 64 c).toNat:Int):=by rw[IntKind.wrap_u64,BitVec.toNat_mul,BitVec.toNat_ofNat];rw[<-Int.natCast_mul,Nat.mul_mod_mod];generalize b.toNat*c=q;show(q:Int)%18446744073709551616=((q%18446744073709551616:Nat):Int);omega
theorem G1d(b:BitVec 64):IntKind.u64.wrap ((b.toNat:Int)*11400714819323198485)=((b*11400714819323198485#64).toNat:Int):=F5a b 11400714819323198485
theorem G1e(b:BitVec 64):IntKind.u64.wrap ((b.toNat:Int)*15485907386658061715)=((b*15485907386658061715#64).toNat:Int):=F5a b 15485907386658061715
theorem F5c(b:BitVec 64)(k:Nat):((b.toNat:Int)).fdiv (2^k)=((b >>> k).toNat:Int):=by
 rw[BitVec.toNat_ushiftRight,Nat.shiftRight_eq_div_pow,Int.fdiv_eq_ediv_of_nonneg _ (Int.pow_nonneg (by omega))]
 norm_cast
theorem F72(b:BitVec 64):((b.toNat:Int)).fdiv (2^min 32 64)=((b >>> 32).toNat:Int):=F5c b 32
theorem F71(b:BitVec 64):((b.toNat:Int)).fdiv (2^min 29 64)=((b >>> 29).toNat:Int):=F5c b 29
theorem D8x(h n:Int):cA_ D6p [.sc (.int .u64 h),sI n] [] (.sc (.int .u64 (mix h n))) []:=by refine en1 hm A6 Tryz.func456 rfl rfl (sg_ ?_);refine⟨by decide,by decide,?_⟩;simp only[F73,F70,F5b,G1d,G1e,F72,F71];rfl
def A2x(x:Int):List AV:= [.sc (.int .u8 x)]
def G4o(x:Int):List AV:= [.sc (.int .u64 x)]
attribute [go_sem] A2x G4o
def w64(x:Int):Int:=IntKind.i64.wrap x
def C2i(h:Int)(l:List Int):Int:=l.foldl mix h
theorem F34(h:Int){l:List Int}{i:Nat}(hi:i<l.length):C2i h (l.take (i+1))=mix (C2i h (l.take i)) (l.getD i 0):=by rw[L5 0 hi];simp[C2i]
theorem G3l {n:Nat}(h:n<=1000000000):IntKind.u64.wrap (n:Int)=n:=by rw[IntKind.wrap_u64];omega
theorem C9x(l:List Int)(hl:l.length<=1000000000):cA_ C87 [A4 1 C6 0 l] [] (.sc (.int .u64 (C2i l.length l))) []:=by
 refine en1 hm A6 Tryz.func346 rfl rfl ?_;simp only[G3l hl,go_sem];refine B1 hm (ι:= {i:Nat // i<=l.length}) (λi=> [(3, .cA, .sc (.int .u64 (C2i l.length (l.take i.1)))),(9, .cA,A4 1 C6 0 l),(10, .cA,sI l.length),(11, .cA,sI i.1)])
  (λi=> []) (λi=>l.length-i.1) ⟨0,by omega⟩ ?_ ?_
 ·refine E0 [] [] (sg_ ?_);rfl
 ·rintro⟨i,hi⟩;refine sg_ ?_;split
  ·rename_i hlt;have hlt:i<l.length:=by omega
   refine⟨ok_,?_⟩;refine A0 (D8x (C2i l.length (l.take i)) (l.getD i 0)) rfl (sg_ ?_);refine A8 ⟨i+1,by omega⟩ (by show l.length-(i+1)<l.length-i;omega) (E0 [] [] ?_);simp only[F34 _ hlt,go_sem];exact(by rw[IntKind.wrap_i64];omega)
  ·rename_i hge;obtain rfl:i=l.length:=by omega
   rw[List.take_length]
theorem C99(l:List Int)(hl:l.length<=1000000000):cA_ C9p [A4 1 A2x 0 l] [] (.sc (.int .u64 (C2i l.length (l.map w64)))) []:=by
 refine en1 hm A6 Tryz.func216 rfl rfl (sg_ ?_);refine⟨ok_,?_⟩;refine B1 hm (ι:= {i:Nat // i<=l.length}) (λi=> [(3, .cA, .sl 1 0 i.1 i.1),(9, .cA,A4 1 A2x 0 l),(10, .cA,sI l.length),(11, .cA,sI i.1)])
  (λi=> [(1, .arr 1 (A9 C6 0 ((l.take i.1).map w64)))]) (λi=>l.length-i.1) ⟨0,by omega⟩ ?_ ?_
 ·refine E0 [(1,144)] [] (sg_ ?_);exact⟨rfl,rfl,λi hi=>absurd hi (by simp)⟩
 ·rintro⟨i,hi⟩;simp only[List.length_map,go_sem];split
  ·rename_i hlt;have hlt:i<l.length:=by omega
   refine⟨ok_,ok_,?_⟩;refine A8 ⟨i+1,by omega⟩ (by show l.length-(i+1)<l.length-i;omega) (E0 [] [] ?_);simp only[List.length_map,go_sem];exact⟨by omega,(by rw[IntKind.wrap_i64];omega),A1g (w64 (l.getD i 0)) rfl (E5g 0 w64 hlt)⟩
  ·rename_i hge;obtain rfl:i=l.length:=by omega
   refine B5 [false] [] (C9x (l.map w64) (by simpa using hl)) (by simp) (by simp) (by simp) (by simp) ?_;simp only[List.take_length,List.length_map,go_sem]
def mag(n:Int):Nat:=n.natAbs%18446744073709551616
theorem G5d(n:Int):mag n<18446744073709551616:=Nat.mod_lt _ (by decide)
def A5s(u:Nat):Nat->List Int
 |0=> []
 |k+1=>((u / 256^k%256:Nat):Int)::A5s u k
theorem D8j(u:Nat): ∀k,(A5s u k).length=k
 |0=>rfl
 |k+1=>by rw[A5s,List.length_cons,D8j u k]
def E8j(u:Nat):Nat:=(List.range 9).countP λj=>decide (0<u / 256^j)
theorem G11 {u k:Nat}(hk:k<=8)(h: ∀j,j<k->0<u / 256^j)(h0:u / 256^k=0):E8j u=k:=by
 have hp: ∀j,(decide (0<u / 256^j))=decide (j<k):=λj=>by
  rcases Nat.lt_or_ge j k with h1 |h1
  ·rw[decide_eq_true h1,decide_eq_true (h j h1)]
  ·rw[decide_eq_false (p:=j<k) (by omega),decide_eq_false];have:u / 256^j<=u / 256^k:=Nat.div_le_div_left (Nat.pow_le_pow_right (by decide) h1) (Nat.pow_pos (by decide));rw[h0]at this;exact λh2=>absurd (Nat.lt_of_lt_of_le h2 this) (Nat.lt_irrefl _)
 unfold E8j;simp only[hp]
 match k,hk with
 |0,_=>rfl
 |1,_=>rfl
 |2,_=>rfl
 |3,_=>rfl
 |4,_=>rfl
 |5,_=>rfl
 |6,_=>rfl
 |7,_=>rfl
 |8,_=>rfl
def E7r(n:Int):List Int:=A5s (mag n) (E8j (mag n))
def B0e(n:Int):List Int:=(((E7r n).length:Int)+if n<0 then 16 else 0)::E7r n
theorem G12(u:Nat):E8j u<=9:=by unfold E8j;have:=List.countP_le_length (p:=λj=>decide (0<u / 256^j)) (l:=List.range 9);rwa[List.length_range]at this
theorem B6g(n:Int):(B0e n).length<=10:=by have:=G12 (mag n);unfold B0e E7r;rw[List.length_cons,D8j];omega
theorem F1r {α:Type}{enc:α->List AV}{d:α}{l m l':List α}{z n:Nat}{g:Nat->List AV}(hn:n=l.length)(hg: ∀i,i<n->g i=enc (l.getD i d))(hl:l'=l++m):
  M9 (.dsl z (n+m.length) (Sq.app ⟨n,g⟩ (A9 enc d m)).g) (.dsl z l'.length (I8 enc d l')):=by
 subst hn hl;refine⟨rfl,by simp,λi hi=> ?_⟩;show W0 (if i<l.length then g i else I8 enc d m (i-l.length)) (I8 enc d (l++m) i);rw[B3m,B3m,B6y];by_cases h:i<l.length
 ·rw[if_pos h,if_pos h,hg i h];exact H9 _
 ·rw[if_neg h,if_neg h];exact H9 _
theorem D5p(n:Int):cA_ D43 [sI n] [] (.sc (.int .u64 (mag n))) []:=by
 refine en1 hm A6 Tryz.func522 rfl rfl (sg_ ?_);unfold mag;by_cases h:n<0
 ·rw[if_pos h];simp only[IntKind.wrap_u64];omega
 ·rw[if_neg h];simp only[IntKind.wrap_u64];omega
theorem A5m(b m:List Int)(hb:b.length<=1099511627776)(hl:m.length<=1099511627776):cA_ E11 [A4 1 A2x 0 b,A4 1 A2x 0 m] [] (A4 1 A2x 0 (b++m)) []:=by refine en1 hm A6 Tryz.func523 rfl rfl (sg_ ?_);simp only[Option.toList_some,Option.toList_none,Int.sub_zero,Int.toNat_natCast,go_sem];refine⟨⟨by omega,by omega,by omega⟩,⟨by omega,(by simp only[maxLen];omega)⟩,?_⟩;exact F1r rfl (λ_ _=>rfl) rfl
theorem w8p(m:Nat)(h:m<=8):IntKind.u8.wrap (IntKind.i64.wrap ((m:Int)+16))=(m:Int)+16:=by simp only[IntKind.wrap_u8,IntKind.wrap_i64];omega
theorem w8n(m:Nat)(h:m<=8):IntKind.u8.wrap (m:Int)=(m:Int)+0:=by simp only[IntKind.wrap_u8];omega
theorem A7r(b:List Int)(n:Int)(hb:b.length<=549755813888):cA_ D41 [A4 1 A2x 0 b,sI n] [] (A4 1 A2x 0 (b++B0e n)) []:=by
 refine en1 hm A6 Tryz.func451 rfl rfl (sg_ ?_);refine A0 (D5p n) rfl (sg_ ?_);have hU:=G5d n;refine B1 hm (ι:= {k:Nat // k<=8/\ ∀j,j<k->0<mag n / 256^j}) (λk=> [(0, .cA,A4 1 A2x 0 b),(1, .cA,sI n),(5, .eQ,A4 1 A2x 0 (A5s (mag n) k.1)),(6, .cA, .sc (.int .u64 ((mag n / 256^k.1:Nat):Int)))])
  (λ_=> []) (λk=>8-k.1) ⟨0,by omega,λj hj=>by omega⟩ ?_ ?_
 ·refine E0 [] [] (sg_ ?_);exact⟨G8 rfl,by rw[Nat.pow_zero,Nat.div_one]⟩
 ·rintro⟨k,hk,hp⟩;have hll:=D8j (mag n) k
  have hl1:A5s (mag n) (k+1)=((mag n / 256^k%256:Nat):Int)::A5s (mag n) k:=rfl
  have hsh:mag n / 256^(k+1)=mag n / 256^k / 256:=by rw[Nat.pow_succ,Nat.div_div_eq_div_mul]
  refine sg_ ?_;by_cases hz:0<mag n / 256^k
  ·have hk8:k+1<=8:=by
    rcases Nat.lt_or_ge k 8 with h |h
    ·omega
    ·obtain rfl:k=8:=by omega
     exfalso;have:mag n / 256^8=0:=Nat.div_eq_of_lt hU;rw[this]at hz;exact absurd hz (by decide)
   have hp2: ∀j,j<k+1->0<mag n / 256^j:=λj hj=>by
    rcases Nat.lt_succ_iff_lt_or_eq.1 hj with h |rfl
    ·exact hp j h
    ·exact hz
   rw[if_pos (by exact Int.ofNat_lt.2 hz)];refine⟨⟨by omega,(by simp only[maxLen];omega)⟩,by omega,?_⟩;refine A8 ⟨k+1,hk8,hp2⟩ (by show 8-(k+1)<8-k;omega) (E0 [] [] ?_);simp only[hsh,hl1,go_sem];generalize mag n / 256^k=u;generalize A5s (mag n) k=D;have ew:IntKind.u8.wrap (u:Int)=((u%256:Nat):Int):=by simp only[IntKind.wrap_u8];omega
   have ed:Int.fdiv (u:Int) (2^min 8 64)=((u / 256:Nat):Int):=by
    have e8:(2:Int)^min 8 64=256:=by decide
    rw[e8,Int.fdiv_eq_ediv_of_nonneg _ (by decide)];omega
   rw[ew,ed];generalize((u%256:Nat):Int)=c
   first |refine⟨rfl,F1r (enc:=A2x) (d:=0) (l:= [c]) (m:=D) rfl (λi hi=> ?_) rfl,rfl⟩ |refine⟨F1r (enc:=A2x) (d:=0) (l:= [c]) (m:=D) rfl (λi hi=> ?_) rfl,rfl⟩ |refine F1r (enc:=A2x) (d:=0) (l:= [c]) (m:=D) rfl (λi hi=> ?_) rfl
   have hi:i<1:=hi;obtain rfl:i=0:=by omega
   rfl
  ·have hz0:mag n / 256^k=0:=Nat.eq_zero_of_not_pos hz
   rw[if_neg (by rw[hz0];decide)];have hnd:=G11 hk hp hz0
   have hdig:A5s (mag n) k=E7r n:=by unfold E7r;rw[hnd]
   have hiB:B0e n= [((A5s (mag n) k).length:Int)+if n<0 then 16 else 0]++A5s (mag n) k:=by unfold B0e;rw[hdig];rfl
   by_cases hn:n<0
   ·rw[if_pos hn]at hiB⊢;refine O7 (A5m b [((A5s (mag n) k).length:Int)+16] (by omega) (by simp)) ?_;simp only[S3,go_sem];have hw8:IntKind.u8.wrap (IntKind.i64.wrap (((A5s (mag n) k).length:Int)+16))=((A5s (mag n) k).length:Int)+16:=w8p _ (by rw[hll];exact hk);simp only[hw8];refine⟨H1 (l:= [((A5s (mag n) k).length:Int)+16]) (λ_ _=>rfl) rfl rfl rfl,?_⟩;refine A0 (A5m (b++ [((A5s (mag n) k).length:Int)+16]) (A5s (mag n) k) (by simp only[List.length_append,List.length_singleton];omega) (by omega)) rfl ?_;simp only[hiB,List.length_append,go_sem]
   ·rw[if_neg hn]at hiB⊢;refine O7 (A5m b [((A5s (mag n) k).length:Int)+0] (by omega) (by simp)) ?_;simp only[S3,go_sem];have hw8:IntKind.u8.wrap ((A5s (mag n) k).length:Int)=((A5s (mag n) k).length:Int)+0:=w8n _ (by rw[hll];exact hk);simp only[hw8];refine⟨H1 (l:= [((A5s (mag n) k).length:Int)+0]) (λ_ _=>rfl) rfl rfl rfl,?_⟩;refine A0 (A5m (b++ [((A5s (mag n) k).length:Int)+0]) (A5s (mag n) k) (by simp only[List.length_append,List.length_singleton];omega) (by omega)) rfl ?_;simp only[hiB,List.length_append,go_sem]
def C6u(x:Bool):List Int:= [if x=true then 1 else 0]
def C8l(v:cI):List Int:=B0e v.X++B0e v.Y
def D8(l:List Int):List Int:=l.flatMap B0e
def W5(l:List Bool):List Int:=l.flatMap C6u
def N3(l:List cI):List Int:=l.flatMap C8l
theorem E3w(x:Bool):(C6u x).length=1:=rfl
theorem E9l(v:cI):(C8l v).length<=20:=by have:=B6g v.X;have:=B6g v.Y;unfold C8l;rw[List.length_append];omega
theorem B02 {α:Type}{f:α->List Int}{c:Nat}(h: ∀a,(f a).length<=c): ∀l:List α,(l.flatMap f).length<=c*l.length
 | []=>by simp
 |a::l=>by have:=B02 h l;have:=h a;rw[List.flatMap_cons,List.length_append,List.length_cons,Nat.mul_add];omega
theorem K4(l:List Int):(D8 l).length<=10*l.length:=B02 B6g l
theorem A4e(l:List Bool):(W5 l).length<=1*l.length:=B02 (λx=>Nat.le_of_eq (E3w x)) l
theorem A08(l:List cI):(N3 l).length<=20*l.length:=B02 E9l l
theorem A7g {α:Type}{f:α->List Int}{l:List α}{i:Nat}(d:α)(h:i<l.length):(l.take (i+1)).flatMap f=(l.take i).flatMap f++f (l.getD i d):=by rw[L5 d h,List.flatMap_append,List.flatMap_singleton]
theorem D2w(b:List Int)(x:Bool)(hb:b.length<=549755813888):cA_ D0k [A4 1 A2x 0 b,sB x] [] (A4 1 A2x 0 (b++C6u x)) []:=by
 refine en1 hm A6 Tryz.func524 rfl rfl (sg_ ?_);cases x with
 |true=>rw[if_pos rfl];refine O7 (A5m b [1] (by omega) (by simp)) ?_;simp only[S3,go_sem];refine⟨H1 (l:=([1]:List Int)) (λ_ _=>rfl) rfl rfl rfl,?_⟩;exact D0 _
 |false=>rw[if_neg (by simp)];refine O7 (A5m b [0] (by omega) (by simp)) ?_;simp only[S3,go_sem];refine⟨H1 (l:=([0]:List Int)) (λ_ _=>rfl) rfl rfl rfl,?_⟩;exact D0 _
theorem D5o(b:List Int)(v:cI)(hb:b.length<=500000000000):cA_ D42 [A4 1 A2x 0 b, .agg v.enc] [] (A4 1 A2x 0 (b++C8l v)) []:=by have h1:=B6g v.X;refine en1 hm A6 Tryz.func452 rfl rfl (sg_ ?_);refine A0 (A7r b v.X (by omega)) rfl (sg_ ?_);refine A0 (A7r (b++B0e v.X) v.Y (by rw[List.length_append];omega)) rfl ?_;simp only[C8l,go_sem]
def F3v(x:Bool):List AV:= [sB x]
def eO(b:List Int):List (Nat×A7):= [(1, .box [A4 1 A2x 0 b])]
attribute [go_sem] F3v eO
theorem C5e(b:List Int):okO (eO b):=by refine⟨by simp[go_sem],?_⟩;simp[go_sem,F0,AV.ids]
theorem R2(b:List Int)(l:List Int)(hb:b.length+10*l.length<=400000000000):cA_ B1g [.ptr 1 0 0 1,A4 1 C6 0 l] (eO b) (.tup []) (eO (b++D8 l)):=by
 refine A26 hm A6 Tryz.func339 rfl rfl (sg_ ?_);refine B1 hm (ι:= {i:Nat // i<=l.length}) (λi=> [(0, .cA, .ptr 1 0 0 1),(6, .cA,A4 1 C6 0 l),(7, .cA,sI l.length),(8, .cA,sI i.1)])
  (λi=>eO (b++(l.take i.1).flatMap B0e)) (λi=>l.length-i.1) ⟨0,by omega⟩ ?_ ?_
 ·refine E0 [] [] ?_;simp only[List.take_zero,List.flatMap_nil,List.append_nil,go_sem]
  try rfl
 ·rintro⟨i,hi⟩;refine sg_ ?_;by_cases hlt:i<l.length
  ·rw[if_pos (by omega)];have hl:=B02 (f:=B0e) B6g (l.take i);rw[List.length_take]at hl;have hs:=A7g (f:=B0e) (l:=l) 0 hlt;refine⟨ok_,?_⟩;refine A0 (A7r (b++(l.take i).flatMap B0e) (l.getD i 0) (by rw[List.length_append];omega)) rfl (sg_ ?_);refine A8 ⟨i+1,by omega⟩ (by show l.length-(i+1)<l.length-i;omega) (E0 [] [] ?_);simp only[hs,go_sem];exact(by rw[IntKind.wrap_i64];omega)
  ·rw[if_neg (by omega)];obtain rfl:i=l.length:=by omega
   refine B6 [] [] [] ?_;simp only[List.take_length,D8,go_sem]
theorem B2h(b:List Int)(l:List Bool)(hb:b.length+1*l.length<=400000000000):cA_ B99 [.ptr 1 0 0 1,A4 1 F3v false l] (eO b) (.tup []) (eO (b++W5 l)):=by
 refine A26 hm A6 Tryz.func453 rfl rfl (sg_ ?_);refine B1 hm (ι:= {i:Nat // i<=l.length}) (λi=> [(0, .cA, .ptr 1 0 0 1),(6, .cA,A4 1 F3v false l),(7, .cA,sI l.length),(8, .cA,sI i.1)])
  (λi=>eO (b++(l.take i.1).flatMap C6u)) (λi=>l.length-i.1) ⟨0,by omega⟩ ?_ ?_
 ·refine E0 [] [] ?_;simp only[List.take_zero,List.flatMap_nil,List.append_nil,go_sem]
  try rfl
 ·rintro⟨i,hi⟩;refine sg_ ?_;by_cases hlt:i<l.length
  ·rw[if_pos (by omega)];have hl:=B02 (f:=C6u) (λx=>Nat.le_of_eq (E3w x)) (l.take i);rw[List.length_take]at hl;have hs:=A7g (f:=C6u) (l:=l) false hlt;refine⟨ok_,?_⟩;refine A0 (D2w (b++(l.take i).flatMap C6u) (l.getD i false) (by rw[List.length_append];omega)) rfl (sg_ ?_);refine A8 ⟨i+1,by omega⟩ (by show l.length-(i+1)<l.length-i;omega) (E0 [] [] ?_);simp only[hs,go_sem];exact(by rw[IntKind.wrap_i64];omega)
  ·rw[if_neg (by omega)];obtain rfl:i=l.length:=by omega
   refine B6 [] [] [] ?_;simp only[List.take_length,W5,go_sem]
theorem A66(b:List Int)(l:List cI)(hb:b.length+20*l.length<=400000000000):cA_ C1r [.ptr 1 0 0 1,A4 2 cI.enc dF_ l] (eO b) (.tup []) (eO (b++N3 l)):=by
 refine A26 hm A6 Tryz.func340 rfl rfl (sg_ ?_);refine B1 hm (ι:= {i:Nat // i<=l.length}) (λi=> [(0, .cA, .ptr 1 0 0 1),(6, .cA,A4 2 cI.enc dF_ l),(7, .cA,sI l.length),(8, .cA,sI i.1)])
  (λi=>eO (b++(l.take i.1).flatMap C8l)) (λi=>l.length-i.1) ⟨0,by omega⟩ ?_ ?_
 ·refine E0 [] [] ?_;simp only[List.take_zero,List.flatMap_nil,List.append_nil,go_sem]
  try rfl
 ·rintro⟨i,hi⟩;refine sg_ ?_;by_cases hlt:i<l.length
  ·rw[if_pos (by omega)];have hl:=B02 (f:=C8l) E9l (l.take i);rw[List.length_take]at hl;have hs:=A7g (f:=C8l) (l:=l) dF_ hlt;refine⟨ok_,?_⟩;refine A0 (D5o (b++(l.take i).flatMap C8l) (l.getD i dF_) (by rw[List.length_append];omega)) rfl (sg_ ?_);refine A8 ⟨i+1,by omega⟩ (by show l.length-(i+1)<l.length-i;omega) (E0 [] [] ?_);simp only[hs,go_sem];exact(by rw[IntKind.wrap_i64];omega)
  ·rw[if_neg (by omega)];obtain rfl:i=l.length:=by omega
   refine B6 [] [] [] ?_;simp only[List.take_length,N3,go_sem]
def B4p(k:cR):List Int:=D8 [k.cU,k.dM,k.cV,k.dK]
theorem C7f(k:cR):(B4p k).length<=40:=K4 _
theorem E4i(b:List Int)(k:cR)(hb:b.length<=300000000000):cA_ C3j [.ptr 1 0 0 1, .agg k.enc] (eO b) (.tup []) (eO (b++B4p k)):=by refine A26 hm A6 Tryz.func344 rfl rfl (sg_ ?_);refine B5 [true,false] [] (R2 b [k.cU,k.dM,k.cV,k.dK] (by simp only[List.length_append,List.length_cons,List.length_nil];omega)) (by simp[go_sem]) (by simp[go_sem]) (by simp[go_sem]) (by simp[go_sem]) ?_;simp only[L8,go_sem];refine⟨H1 (l:= [k.cU,k.dM,k.cV,k.dK]) (λ_ _=>rfl) rfl rfl rfl,?_⟩;refine B6 [] [] [] ?_;simp only[B4p,go_sem]
def C3v(x:dB):List Int:=(D8 [x.Shape.cS,x.Shape.eV,(x.Shape.cJ.length:Int)])++(N3 x.Shape.cJ)++(D8 [x.fR,x.eI,x.fC])++(W5 [x.fL])++(D8 [x.fQ,x.fY,x.fV])
theorem F8l(x:dB):(C3v x).length<=100+20*x.Shape.cJ.length:=by
 have q0:(D8 [x.Shape.cS,x.Shape.eV,(x.Shape.cJ.length:Int)]).length<=30:=K4 _
 have q1:=A08 x.Shape.cJ
 have q2:(D8 [x.fR,x.eI,x.fC]).length<=30:=K4 _
 have q3:(W5 [x.fL]).length<=1:=A4e _
 have q4:(D8 [x.fQ,x.fY,x.fV]).length<=30:=K4 _;unfold C3v;simp only[List.length_append];omega
theorem E5o(b:List Int)(x:dB)(hb:b.length<=200000000000)(hx:x.Shape.cJ.length<=1048576):cA_ B8f [.ptr 1 0 0 1, .agg x.enc] (eO b) (.tup []) (eO (b++C3v x)):=by
 have q0:(D8 [x.Shape.cS,x.Shape.eV,(x.Shape.cJ.length:Int)]).length<=30:=K4 _
 have q1:=A08 x.Shape.cJ
 have q2:(D8 [x.fR,x.eI,x.fC]).length<=30:=K4 _
 have q3:(W5 [x.fL]).length<=1:=A4e _
 have q4:(D8 [x.fQ,x.fY,x.fV]).length<=30:=K4 _;refine A26 hm A6 Tryz.func454 rfl rfl (sg_ ?_);refine B5 [true,false] [] (R2 b [x.Shape.cS,x.Shape.eV,(x.Shape.cJ.length:Int)] (by simp only[List.length_append,List.length_cons,List.length_nil];omega)) (by simp[go_sem]) (by simp[go_sem]) (by simp[go_sem]) (by simp[go_sem]) ?_;simp only[L8,go_sem];refine⟨H1 (l:= [x.Shape.cS,x.Shape.eV,(x.Shape.cJ.length:Int)]) (λ_ _=>rfl) rfl rfl rfl,?_⟩;refine B5 [true,true] [] (A66 (b++D8 [x.Shape.cS,x.Shape.eV,(x.Shape.cJ.length:Int)]) x.Shape.cJ (by simp only[List.length_append,List.length_cons,List.length_nil];omega)) (by simp[go_sem]) (by simp[go_sem]) (by simp[go_sem]) (by simp[go_sem]) ?_;simp only[L8,go_sem];refine B5 [true,false] [] (R2 ((b++D8 [x.Shape.cS,x.Shape.eV,(x.Shape.cJ.length:Int)])++N3 x.Shape.cJ) [x.fR,x.eI,x.fC] (by simp only[List.length_append,List.length_cons,List.length_nil];omega)) (by simp[go_sem]) (by simp[go_sem]) (by simp[go_sem]) (by simp[go_sem]) ?_;simp only[L8,go_sem];refine⟨H1 (l:= [x.fR,x.eI,x.fC]) (λ_ _=>rfl) rfl rfl rfl,?_⟩;refine B5 [true,false] [] (B2h (((b++D8 [x.Shape.cS,x.Shape.eV,(x.Shape.cJ.length:Int)])++N3 x.Shape.cJ)++D8 [x.fR,x.eI,x.fC]) [x.fL] (by simp only[List.length_append,List.length_cons,List.length_nil];omega)) (by simp[go_sem]) (by simp[go_sem]) (by simp[go_sem]) (by simp[go_sem]) ?_;simp only[L8,go_sem];refine⟨H1 (l:= [x.fL]) (λ_ _=>rfl) rfl rfl rfl,?_⟩;refine B5 [true,false] [] (R2 ((((b++D8 [x.Shape.cS,x.Shape.eV,(x.Shape.cJ.length:Int)])++N3 x.Shape.cJ)++D8 [x.fR,x.eI,x.fC])++W5 [x.fL]) [x.fQ,x.fY,x.fV] (by simp only[List.length_append,List.length_cons,List.length_nil];omega)) (by simp[go_sem]) (by simp[go_sem]) (by simp[go_sem]) (by simp[go_sem]) ?_;simp only[L8,go_sem];refine⟨H1 (l:= [x.fQ,x.fY,x.fV]) (λ_ _=>rfl) rfl rfl rfl,?_⟩;refine B6 [] [] [] ?_;simp only[C3v,go_sem]
theorem A6d {α:Type}{f:α->List Int}{c:Nat}: ∀ {l:List α},(∀a∈l,(f a).length<=c)->(l.flatMap f).length<=c*l.length
 | [],_=>by simp
 |a::l,h=>by
  have:=A6d (f:=f) (c:=c) (l:=l) λx hx=>h x (List.mem_cons_of_mem _ hx)
  have:=h a (List.mem_cons_self ..);rw[List.flatMap_cons,List.length_append,List.length_cons,Nat.mul_add];omega
def E6e(x:cF):Prop:=x.cK.length<=64/\ ∀f∈x.cK,f.Shape.cJ.length<=64
theorem F1u {x:cF}(h:E6e x): ∀f∈x.cK,(C3v f).length<=1400:=λf hf=>by have:=F8l f;have:=h.2 f hf;omega
def E2l(x:cF):List Int:=(D8 [x.ID,x.cS])++(N3 [x.cH.dY])++(D8 [x.cH.eR])++(N3 [x.dL])++(D8 [x.cZ])++(N3 [x.fF])++(D8 [x.fH,x.eA,x.dX,x.eF])++(W5 [x.fG,x.eC,x.fD,x.eU])++(D8 [x.eJ,(x.cK.length:Int)])
def B8g(x:cF):List Int:=E2l x++x.cK.flatMap C3v
theorem E7f(x:cF):(E2l x).length<=300:=by
 have q0:(D8 [x.ID,x.cS]).length<=20:=K4 _
 have q1:(N3 [x.cH.dY]).length<=20:=A08 _
 have q2:(D8 [x.cH.eR]).length<=10:=K4 _
 have q3:(N3 [x.dL]).length<=20:=A08 _
 have q4:(D8 [x.cZ]).length<=10:=K4 _
 have q5:(N3 [x.fF]).length<=20:=A08 _
 have q6:(D8 [x.fH,x.eA,x.dX,x.eF]).length<=40:=K4 _
 have q7:(W5 [x.fG,x.eC,x.fD,x.eU]).length<=4:=A4e _
 have q8:(D8 [x.eJ,(x.cK.length:Int)]).length<=20:=K4 _;unfold E2l;simp only[List.length_append];omega
theorem E7e {x:cF}(h:E6e x):(B8g x).length<=90000:=by
 have h1:=E7f x
 have h2:=A6d (F1u h)
 have h3:=h.1;unfold B8g;rw[List.length_append];omega
theorem F4p(b:List Int)(x:cF)(hb:b.length<=100000000000)(hx:E6e x):cA_ C1q [.ptr 1 0 0 1, .agg x.enc] (eO b) (.tup []) (eO (b++B8g x)):=by
 have q0:(D8 [x.ID,x.cS]).length<=20:=K4 _
 have q1:(N3 [x.cH.dY]).length<=20:=A08 _
 have q2:(D8 [x.cH.eR]).length<=10:=K4 _
 have q3:(N3 [x.dL]).length<=20:=A08 _
 have q4:(D8 [x.cZ]).length<=10:=K4 _
 have q5:(N3 [x.fF]).length<=20:=A08 _
 have q6:(D8 [x.fH,x.eA,x.dX,x.eF]).length<=40:=K4 _
 have q7:(W5 [x.fG,x.eC,x.fD,x.eU]).length<=4:=A4e _
 have q8:(D8 [x.eJ,(x.cK.length:Int)]).length<=20:=K4 _
 have hh:=E7f x
 have hx1:=hx.1;refine A26 hm A6 Tryz.func341 rfl rfl (sg_ ?_);refine B5 [true,false] [] (R2 b [x.ID,x.cS] (by simp only[List.length_append,List.length_cons,List.length_nil];omega)) (by simp[go_sem]) (by simp[go_sem]) (by simp[go_sem]) (by simp[go_sem]) ?_;simp only[L8,go_sem];refine⟨H1 (l:= [x.ID,x.cS]) (λ_ _=>rfl) rfl rfl rfl,?_⟩;refine B5 [true,false] [] (A66 (b++D8 [x.ID,x.cS]) [x.cH.dY] (by simp only[List.length_append,List.length_cons,List.length_nil];omega)) (by simp[go_sem]) (by simp[go_sem]) (by simp[go_sem]) (by simp[go_sem]) ?_;simp only[L8,go_sem];refine⟨H1 (l:= [x.cH.dY]) (λ_ _=>rfl) rfl rfl rfl,?_⟩;refine B5 [true,false] [] (R2 ((b++D8 [x.ID,x.cS])++N3 [x.cH.dY]) [x.cH.eR] (by simp only[List.length_append,List.length_cons,List.length_nil];omega)) (by simp[go_sem]) (by simp[go_sem]) (by simp[go_sem]) (by simp[go_sem]) ?_;simp only[L8,go_sem];refine⟨H1 (l:= [x.cH.eR]) (λ_ _=>rfl) rfl rfl rfl,?_⟩;refine B5 [true,false] [] (A66 (((b++D8 [x.ID,x.cS])++N3 [x.cH.dY])++D8 [x.cH.eR]) [x.dL] (by simp only[List.length_append,List.length_cons,List.length_nil];omega)) (by simp[go_sem]) (by simp[go_sem]) (by simp[go_sem]) (by simp[go_sem]) ?_;simp only[L8,go_sem];refine⟨H1 (l:= [x.dL]) (λ_ _=>rfl) rfl rfl rfl,?_⟩;refine B5 [true,false] [] (R2 ((((b++D8 [x.ID,x.cS])++N3 [x.cH.dY])++D8 [x.cH.eR])++N3 [x.dL]) [x.cZ] (by simp only[List.length_append,List.length_cons,List.length_nil];omega)) (by simp[go_sem]) (by simp[go_sem]) (by simp[go_sem]) (by simp[go_sem]) ?_;simp only[L8,go_sem];refine⟨H1 (l:= [x.cZ]) (λ_ _=>rfl) rfl rfl rfl,?_⟩;refine B5 [true,false] [] (A66 (((((b++D8 [x.ID,x.cS])++N3 [x.cH.dY])++D8 [x.cH.eR])++N3 [x.dL])++D8 [x.cZ]) [x.fF] (by simp only[List.length_append,List.length_cons,List.length_nil];omega)) (by simp[go_sem]) (by simp[go_sem]) (by simp[go_sem]) (by simp[go_sem]) ?_;simp only[L8,go_sem];refine⟨H1 (l:= [x.fF]) (λ_ _=>rfl) rfl rfl rfl,?_⟩;refine B5 [true,false] [] (R2 ((((((b++D8 [x.ID,x.cS])++N3 [x.cH.dY])++D8 [x.cH.eR])++N3 [x.dL])++D8 [x.cZ])++N3 [x.fF]) [x.fH,x.eA,x.dX,x.eF] (by simp only[List.length_append,List.length_cons,List.length_nil];omega)) (by simp[go_sem]) (by simp[go_sem]) (by simp[go_sem]) (by simp[go_sem]) ?_;simp only[L8,go_sem];refine⟨H1 (l:= [x.fH,x.eA,x.dX,x.eF]) (λ_ _=>rfl) rfl rfl rfl,?_⟩;refine B5 [true,false] [] (B2h (((((((b++D8 [x.ID,x.cS])++N3 [x.cH.dY])++D8 [x.cH.eR])++N3 [x.dL])++D8 [x.cZ])++N3 [x.fF])++D8 [x.fH,x.eA,x.dX,x.eF]) [x.fG,x.eC,x.fD,x.eU] (by simp only[List.length_append,List.length_cons,List.length_nil];omega)) (by simp[go_sem]) (by simp[go_sem]) (by simp[go_sem]) (by simp[go_sem]) ?_;simp only[L8,go_sem];refine⟨H1 (l:= [x.fG,x.eC,x.fD,x.eU]) (λ_ _=>rfl) rfl rfl rfl,?_⟩;refine B5 [true,false] [] (R2 ((((((((b++D8 [x.ID,x.cS])++N3 [x.cH.dY])++D8 [x.cH.eR])++N3 [x.dL])++D8 [x.cZ])++N3 [x.fF])++D8 [x.fH,x.eA,x.dX,x.eF])++W5 [x.fG,x.eC,x.fD,x.eU]) [x.eJ,(x.cK.length:Int)] (by simp only[List.length_append,List.length_cons,List.length_nil];omega)) (by simp[go_sem]) (by simp[go_sem]) (by simp[go_sem]) (by simp[go_sem]) ?_;simp only[L8,go_sem];refine⟨H1 (l:= [x.eJ,(x.cK.length:Int)]) (λ_ _=>rfl) rfl rfl rfl,?_⟩;unfold B8g;refine B1 hm (ι:= {i:Nat // i<=x.cK.length}) (λi=> [(0, .cA, .ptr 1 0 0 1),(71, .cA,A4 10 dB.enc dF_ x.cK),(72, .cA,sI x.cK.length),(73, .cA,sI i.1)])
  (λi=>eO (b++(E2l x++(x.cK.take i.1).flatMap C3v))) (λi=>x.cK.length-i.1) ⟨0,by omega⟩ ?_ ?_
 ·refine E0 [] [] ?_;simp only[List.take_zero,List.flatMap_nil,List.append_nil,E2l,go_sem]
  try trivial
 ·rintro⟨i,hi⟩;refine sg_ ?_;by_cases hlt:i<x.cK.length
  ·rw[if_pos (by omega)];have hl:=A6d (f:=C3v) (c:=1400) (l:=x.cK.take i) (λf hf=>F1u hx f (List.mem_of_mem_take hf));rw[List.length_take]at hl;have hs:=A7g (f:=C3v) (l:=x.cK) dF_ hlt;refine⟨ok_,?_⟩;refine P7 (E5o (b++(E2l x++(x.cK.take i).flatMap C3v)) (x.cK.getD i dF_) (by simp only[List.length_append];omega) (by have:=hx.2 _ (B8 dF_ hlt);omega)) (C5e _) rfl (by simp[go_sem]) (by simp[go_sem,AV.ids]) rfl (sg_ ?_);refine A8 ⟨i+1,by omega⟩ (by show x.cK.length-(i+1)<x.cK.length-i;omega) (E0 [] [] ?_);simp only[hs,go_sem];exact(by rw[IntKind.wrap_i64];omega)
  ·rw[if_neg (by omega)];obtain rfl:i=x.cK.length:=by omega
   refine B6 [] [] [] ?_;simp only[List.take_length,go_sem]
def B8l(x:cG):List Int:=(D8 [x.ID,x.cS,x.cU,x.cV])++(N3 [x.dW,x.dR,x.eS])++(D8 [x.cX])++(W5 [x.dE])++(D8 [x.dN,x.dS])++(W5 [x.dH])++(D8 [x.dP,x.dU,x.dD,x.dI])++(W5 [x.dC])++(D8 [x.cQ.I0,x.cQ.I1,x.cQ.I2,x.cQ.I3])
theorem E8a(x:cG):(B8l x).length<=300:=by
 have q0:(D8 [x.ID,x.cS,x.cU,x.cV]).length<=40:=K4 _
 have q1:(N3 [x.dW,x.dR,x.eS]).length<=60:=A08 _
 have q2:(D8 [x.cX]).length<=10:=K4 _
 have q3:(W5 [x.dE]).length<=1:=A4e _
 have q4:(D8 [x.dN,x.dS]).length<=20:=K4 _
 have q5:(W5 [x.dH]).length<=1:=A4e _
 have q6:(D8 [x.dP,x.dU,x.dD,x.dI]).length<=40:=K4 _
 have q7:(W5 [x.dC]).length<=1:=A4e _
 have q8:(D8 [x.cQ.I0,x.cQ.I1,x.cQ.I2,x.cQ.I3]).length<=40:=K4 _;unfold B8l;simp only[List.length_append];omega
theorem F0v(b:List Int)(x:cG)(hb:b.length<=200000000000):cA_ C0a [.ptr 1 0 0 1, .agg x.enc] (eO b) (.tup []) (eO (b++B8l x)):=by
 have q0:(D8 [x.ID,x.cS,x.cU,x.cV]).length<=40:=K4 _
 have q1:(N3 [x.dW,x.dR,x.eS]).length<=60:=A08 _
 have q2:(D8 [x.cX]).length<=10:=K4 _
 have q3:(W5 [x.dE]).length<=1:=A4e _
 have q4:(D8 [x.dN,x.dS]).length<=20:=K4 _
 have q5:(W5 [x.dH]).length<=1:=A4e _
 have q6:(D8 [x.dP,x.dU,x.dD,x.dI]).length<=40:=K4 _
 have q7:(W5 [x.dC]).length<=1:=A4e _;refine A26 hm A6 Tryz.func342 rfl rfl (sg_ ?_);refine B5 [true,false] [] (R2 b [x.ID,x.cS,x.cU,x.cV] (by simp only[List.length_append,List.length_cons,List.length_nil];omega)) (by simp[go_sem]) (by simp[go_sem]) (by simp[go_sem]) (by simp[go_sem]) ?_;simp only[L8,go_sem];refine⟨H1 (l:= [x.ID,x.cS,x.cU,x.cV]) (λ_ _=>rfl) rfl rfl rfl,?_⟩;refine B5 [true,false] [] (A66 (b++D8 [x.ID,x.cS,x.cU,x.cV]) [x.dW,x.dR,x.eS] (by simp only[List.length_append,List.length_cons,List.length_nil];omega)) (by simp[go_sem]) (by simp[go_sem]) (by simp[go_sem]) (by simp[go_sem]) ?_;simp only[L8,go_sem];refine⟨H1 (l:= [x.dW,x.dR,x.eS]) (λ_ _=>rfl) rfl rfl rfl,?_⟩;refine B5 [true,false] [] (R2 ((b++D8 [x.ID,x.cS,x.cU,x.cV])++N3 [x.dW,x.dR,x.eS]) [x.cX] (by simp only[List.length_append,List.length_cons,List.length_nil];omega)) (by simp[go_sem]) (by simp[go_sem]) (by simp[go_sem]) (by simp[go_sem]) ?_;simp only[L8,go_sem];refine⟨H1 (l:= [x.cX]) (λ_ _=>rfl) rfl rfl rfl,?_⟩;refine B5 [true,false] [] (B2h (((b++D8 [x.ID,x.cS,x.cU,x.cV])++N3 [x.dW,x.dR,x.eS])++D8 [x.cX]) [x.dE] (by simp only[List.length_append,List.length_cons,List.length_nil];omega)) (by simp[go_sem]) (by simp[go_sem]) (by simp[go_sem]) (by simp[go_sem]) ?_;simp only[L8,go_sem];refine⟨H1 (l:= [x.dE]) (λ_ _=>rfl) rfl rfl rfl,?_⟩;refine B5 [true,false] [] (R2 ((((b++D8 [x.ID,x.cS,x.cU,x.cV])++N3 [x.dW,x.dR,x.eS])++D8 [x.cX])++W5 [x.dE]) [x.dN,x.dS] (by simp only[List.length_append,List.length_cons,List.length_nil];omega)) (by simp[go_sem]) (by simp[go_sem]) (by simp[go_sem]) (by simp[go_sem]) ?_;simp only[L8,go_sem];refine⟨H1 (l:= [x.dN,x.dS]) (λ_ _=>rfl) rfl rfl rfl,?_⟩;refine B5 [true,false] [] (B2h (((((b++D8 [x.ID,x.cS,x.cU,x.cV])++N3 [x.dW,x.dR,x.eS])++D8 [x.cX])++W5 [x.dE])++D8 [x.dN,x.dS]) [x.dH] (by simp only[List.length_append,List.length_cons,List.length_nil];omega)) (by simp[go_sem]) (by simp[go_sem]) (by simp[go_sem]) (by simp[go_sem]) ?_;simp only[L8,go_sem];refine⟨H1 (l:= [x.dH]) (λ_ _=>rfl) rfl rfl rfl,?_⟩;refine B5 [true,false] [] (R2 ((((((b++D8 [x.ID,x.cS,x.cU,x.cV])++N3 [x.dW,x.dR,x.eS])++D8 [x.cX])++W5 [x.dE])++D8 [x.dN,x.dS])++W5 [x.dH]) [x.dP,x.dU,x.dD,x.dI] (by simp only[List.length_append,List.length_cons,List.length_nil];omega)) (by simp[go_sem]) (by simp[go_sem]) (by simp[go_sem]) (by simp[go_sem]) ?_;simp only[L8,go_sem];refine⟨H1 (l:= [x.dP,x.dU,x.dD,x.dI]) (λ_ _=>rfl) rfl rfl rfl,?_⟩;refine B5 [true,false] [] (B2h (((((((b++D8 [x.ID,x.cS,x.cU,x.cV])++N3 [x.dW,x.dR,x.eS])++D8 [x.cX])++W5 [x.dE])++D8 [x.dN,x.dS])++W5 [x.dH])++D8 [x.dP,x.dU,x.dD,x.dI]) [x.dC] (by simp only[List.length_append,List.length_cons,List.length_nil];omega)) (by simp[go_sem]) (by simp[go_sem]) (by simp[go_sem]) (by simp[go_sem]) ?_;simp only[L8,go_sem];refine⟨H1 (l:= [x.dC]) (λ_ _=>rfl) rfl rfl rfl,?_⟩;refine B5 [true,false] [] (R2 ((((((((b++D8 [x.ID,x.cS,x.cU,x.cV])++N3 [x.dW,x.dR,x.eS])++D8 [x.cX])++W5 [x.dE])++D8 [x.dN,x.dS])++W5 [x.dH])++D8 [x.dP,x.dU,x.dD,x.dI])++W5 [x.dC]) [x.cQ.I0,x.cQ.I1,x.cQ.I2,x.cQ.I3] (by simp only[List.length_append,List.length_cons,List.length_nil];omega)) (by simp[go_sem]) (by simp[go_sem]) (by simp[go_sem]) (by simp[go_sem]) ?_;simp only[L8,go_sem];refine⟨⟨rfl,rfl,λi hi=> ?_⟩,?_⟩
 ·match i,hi with
  |0,_=>exact H9 _
  |1,_=>exact H9 _
  |2,_=>exact H9 _
  |3,_=>exact H9 _
 refine B6 [] [] [] ?_;simp only[B8l,go_sem]
def ptB(p:cO):List Int:=(N3 [p.eY])++(D8 [p.fA,p.ID,p.eM,p.eW])
theorem F2e(p:cO):(ptB p).length<=60:=by
 have q0:(N3 [p.eY]).length<=20:=A08 _
 have q1:(D8 [p.fA,p.ID,p.eM,p.eW]).length<=40:=K4 _;unfold ptB;simp only[List.length_append];omega
def D77(x:cY):List Int:=B4p x.dQ++(N3 [x.cL.dF])++(D8 [(x.cL.cP.length:Int)])
def B59(x:cY):List Int:=D77 x++x.cL.cP.flatMap ptB
theorem E7p(x:cY):(D77 x).length<=70:=by
 have q0:=C7f x.dQ
 have q1:(N3 [x.cL.dF]).length<=20:=A08 _
 have q2:(D8 [(x.cL.cP.length:Int)]).length<=10:=K4 _;unfold D77;simp only[List.length_append];omega
theorem F79(x:cY):(B59 x).length<=70+60*x.cL.cP.length:=by
 have h1:=E7p x
 have h2:=B02 (f:=ptB) F2e x.cL.cP;unfold B59;rw[List.length_append];omega
theorem E5n(b:List Int)(x:cY)(hb:b.length<=100000000000)(hx:x.cL.cP.length<=1048576):cA_ B8e [.ptr 1 0 0 1, .agg x.enc] (eO b) (.tup []) (eO (b++B59 x)):=by
 have q0:=C7f x.dQ
 have q1:(N3 [x.cL.dF]).length<=20:=A08 _
 have q2:(D8 [(x.cL.cP.length:Int)]).length<=10:=K4 _
 have hh:=E7p x;refine A26 hm A6 Tryz.func343 rfl rfl (sg_ ?_);refine P7 (E4i b x.dQ (by omega)) (C5e _) rfl (by simp[go_sem]) (by simp[go_sem,AV.ids]) rfl (sg_ ?_);refine B5 [true,false] [] (A66 (b++B4p x.dQ) [x.cL.dF] (by simp only[List.length_append,List.length_cons,List.length_nil];omega)) (by simp[go_sem]) (by simp[go_sem]) (by simp[go_sem]) (by simp[go_sem]) ?_;simp only[L8,go_sem];refine⟨H1 (l:= [x.cL.dF]) (λ_ _=>rfl) rfl rfl rfl,?_⟩;refine B5 [true,false] [] (R2 ((b++B4p x.dQ)++N3 [x.cL.dF]) [(x.cL.cP.length:Int)] (by simp only[List.length_append,List.length_cons,List.length_nil];omega)) (by simp[go_sem]) (by simp[go_sem]) (by simp[go_sem]) (by simp[go_sem]) ?_;simp only[L8,go_sem];refine⟨H1 (l:= [(x.cL.cP.length:Int)]) (λ_ _=>rfl) rfl rfl rfl,?_⟩;unfold B59;refine B1 hm (ι:= {i:Nat // i<=x.cL.cP.length}) (λi=> [(0, .cA, .ptr 1 0 0 1),(25, .cA,A4 6 cO.enc dF_ x.cL.cP),(26, .cA,sI x.cL.cP.length),(27, .cA,sI i.1)])
  (λi=>eO (b++(D77 x++(x.cL.cP.take i.1).flatMap ptB))) (λi=>x.cL.cP.length-i.1) ⟨0,by omega⟩ ?_ ?_
 ·refine E0 [] [] ?_;simp only[List.take_zero,List.flatMap_nil,List.append_nil,D77,go_sem]
  try trivial
 ·rintro⟨i,hi⟩;refine sg_ ?_;by_cases hlt:i<x.cL.cP.length
  ·rw[if_pos (by omega)];have hl:=A6d (f:=ptB) (c:=60) (l:=x.cL.cP.take i) (λf _=>F2e f);rw[List.length_take]at hl;have hs:=A7g (f:=ptB) (l:=x.cL.cP) dF_ hlt;refine⟨ok_,?_⟩;have q0:(N3 [(x.cL.cP.getD i dF_).eY]).length<=20:=A08 _
   have q1:(D8 [(x.cL.cP.getD i dF_).fA,(x.cL.cP.getD i dF_).ID,(x.cL.cP.getD i dF_).eM,(x.cL.cP.getD i dF_).eW]).length<=40:=K4 _;refine B5 [true,false] [] (A66 (b++(D77 x++(x.cL.cP.take i).flatMap ptB)) [(x.cL.cP.getD i dF_).eY] (by simp only[List.length_append,List.length_cons,List.length_nil];omega)) (by simp[go_sem]) (by simp[go_sem]) (by simp[go_sem]) (by simp[go_sem]) ?_;simp only[L8,go_sem];refine⟨H1 (l:= [(x.cL.cP.getD i dF_).eY]) (λ_ _=>rfl) rfl rfl rfl,?_⟩;refine B5 [true,false] [] (R2 ((b++(D77 x++(x.cL.cP.take i).flatMap ptB))++N3 [(x.cL.cP.getD i dF_).eY]) [(x.cL.cP.getD i dF_).fA,(x.cL.cP.getD i dF_).ID,(x.cL.cP.getD i dF_).eM,(x.cL.cP.getD i dF_).eW] (by simp only[List.length_append,List.length_cons,List.length_nil];omega)) (by simp[go_sem]) (by simp[go_sem]) (by simp[go_sem]) (by simp[go_sem]) ?_;simp only[L8,go_sem];refine⟨H1 (l:= [(x.cL.cP.getD i dF_).fA,(x.cL.cP.getD i dF_).ID,(x.cL.cP.getD i dF_).eM,(x.cL.cP.getD i dF_).eW]) (λ_ _=>rfl) rfl rfl rfl,?_⟩;refine A8 ⟨i+1,by omega⟩ (by show x.cL.cP.length-(i+1)<x.cL.cP.length-i;omega) (E0 [] [] ?_);simp only[hs,ptB,go_sem];exact(by rw[IntKind.wrap_i64];omega)
  ·rw[if_neg (by omega)];obtain rfl:i=x.cL.cP.length:=by omega
   refine B6 [] [] [] ?_;simp only[List.take_length,go_sem]
theorem D1p(b:BitVec 32):IntKind.u32.wrap (b.toNat:Int)=b.toNat:=by rw[IntKind.wrap_u32];have:=b.isLt;omega
theorem C2b(b:BitVec 32):BitVec.ofInt 32 (b.toNat:Int)=b:=by apply BitVec.eq_of_toNat_eq;have:=b.isLt;rw[BitVec.toNat_ofInt];omega
theorem F3f(n:Int):BitVec.ofInt 32 (IntKind.u32.wrap n)=BitVec.ofInt 32 n:=by
 apply BitVec.eq_of_toNat_eq;rw[IntKind.wrap_u32,BitVec.toNat_ofInt,BitVec.toNat_ofInt];show(n%4294967296%4294967296).toNat=(n%4294967296).toNat
 omega
theorem G1g(b:BitVec 32):(b &&& BitVec.ofInt 32 1).toNat=b.toNat%2:=by rw[BitVec.toNat_and,show(BitVec.ofInt 32 1).toNat=1 from rfl,Nat.and_one_is_mod]
theorem G1i(b:BitVec 32)(k:Nat):((b.toNat:Int)).fdiv (2^k)=((b >>> k).toNat:Int):=by
 rw[BitVec.toNat_ushiftRight,Nat.shiftRight_eq_div_pow,Int.fdiv_eq_ediv_of_nonneg _ (Int.pow_nonneg (by omega))]
 norm_cast
theorem E7i(b:BitVec 32):((b.toNat:Int)).fdiv (2^min 1 32)=((b >>> 1).toNat:Int):=G1i b 1
theorem F97(n:Nat)(h:n<2):IntKind.u32.wrap (n:Int)=n:=by rw[IntKind.wrap_u32];omega
theorem F1j(d:BitVec 32):(IntKind.u32.wrap (((BitVec.ofInt 32 (d.toNat:Int)) &&& BitVec.ofInt 32 1).toNat:Int)==1)=decide (d.toNat%2=1):=by rw[C2b,G1g,F97 _ (Nat.mod_lt _ (by decide)),Bool.eq_iff_iff,beq_iff_eq,decide_eq_true_eq];omega
def F3s(c:BitVec 32):BitVec 32:=if c.toNat%2=1 then(c >>> 1) ^^^ BitVec.ofInt 32 2197175160 else c >>> 1
def D75(c:BitVec 32):Nat->BitVec 32
 |0=>c
 |k+1=>F3s (D75 c k)
theorem G4f(d:BitVec 32):IntKind.u32.wrap (((BitVec.ofInt 32 ((d.toNat:Int).fdiv (2^min 1 32))) ^^^ BitVec.ofInt 32 2197175160).toNat:Int)=(d >>> 1 ^^^ BitVec.ofInt 32 2197175160).toNat:=by rw[E7i,C2b,D1p]
theorem D5n(c:BitVec 32):cA_ D4z [.sc (.int .u32 c.toNat)] [] (.sc (.int .u32 (D75 c 8).toNat)) []:=by
 refine en1 hm A6 Tryz.func525 rfl rfl (sg_ ?_);refine B1 hm (ι:= {k:Nat // k<=8}) (λk=> [(0, .cA, .sc (.int .u32 (D75 c k.1).toNat)),(4, .cA,sI k.1)])
  (λ_=> []) (λk=>8-k.1) ⟨0,by omega⟩ ?_ ?_
 ·refine E0 [] [] (sg_ ?_);rfl
 ·rintro⟨k,hk⟩;have hS:D75 c (k+1)=F3s (D75 c k):=rfl;refine sg_ ?_;by_cases hlt:k<8
  ·rw[if_pos (by omega)];generalize D75 c k=d at*;refine⟨by omega,?_⟩;split
   ·rename_i ho;have ho:d.toNat%2=1:=of_decide_eq_true ((F1j d).symm.trans ho)
    have hS2:F3s d=(d >>> 1) ^^^ BitVec.ofInt 32 2197175160:=if_pos ho;refine A8 ⟨k+1,by omega⟩ (by show 8-(k+1)<8-k;omega) (E0 [] [] ?_);simp only[hS,hS2,go_sem];exact⟨G4f d,(by rw[IntKind.wrap_i64];omega)⟩
   ·rename_i ho;have ho: ¬d.toNat%2=1:=λh=>ho ((F1j d).trans (decide_eq_true h))
    have hS2:F3s d=d >>> 1:=if_neg ho;refine A8 ⟨k+1,by omega⟩ (by show 8-(k+1)<8-k;omega) (E0 [] [] ?_);simp only[hS,hS2,go_sem];exact⟨E7i d,(by rw[IntKind.wrap_i64];omega)⟩
  ·rw[if_neg (by omega)];obtain rfl:k=8:=by omega
   rfl
def G4h(c:BitVec 32)(x:Int):BitVec 32:=D75 (c ^^^ BitVec.ofInt 32 x) 8
def D76(l:List Int):BitVec 32:=l.foldl G4h (BitVec.ofInt 32 4294967295)
theorem F5n {l:List Int}{i:Nat}(h:i<l.length):D76 (l.take (i+1))=G4h (D76 (l.take i)) (l.getD i 0):=by unfold D76;rw[L5 0 h,List.foldl_append];rfl
def F3r(l:List Int):BitVec 32:=D76 l ^^^ BitVec.ofInt 32 4294967295
theorem G1j(d:BitVec 32)(x:Int):IntKind.u32.wrap (((BitVec.ofInt 32 (d.toNat:Int)) ^^^ BitVec.ofInt 32 (IntKind.u32.wrap x)).toNat:Int)=(d ^^^ BitVec.ofInt 32 x).toNat:=by rw[C2b,F3f,D1p]
theorem G1h(d:BitVec 32):IntKind.u32.wrap (((BitVec.ofInt 32 (if IntKind.u32.signed=true then -1 else IntKind.u32.max)) ^^^ BitVec.ofInt 32 (d.toNat:Int)).toNat:Int)=(d ^^^ BitVec.ofInt 32 4294967295).toNat:=by rw[show(if IntKind.u32.signed=true then(-1:Int)else IntKind.u32.max)=4294967295 from by decide,C2b,D1p,BitVec.xor_comm]
theorem D5m(l:List Int)(hl:l.length<=1000000000):cA_ D4y [A4 1 A2x 0 l] [] (.sc (.int .u32 (F3r l).toNat)) []:=by
 refine en1 hm A6 Tryz.func455 rfl rfl (sg_ ?_);refine B1 hm (ι:= {i:Nat // i<=l.length}) (λi=> [(3, .cA, .sc (.int .u32 (D76 (l.take i.1)).toNat)),(6, .cA,A4 1 A2x 0 l),(7, .cA,sI l.length),(8, .cA,sI i.1)])
  (λ_=> []) (λi=>l.length-i.1) ⟨0,by omega⟩ ?_ ?_
 ·refine E0 [] [] (sg_ ?_);decide
 ·rintro⟨i,hi⟩;refine sg_ ?_;by_cases hlt:i<l.length
  ·rw[if_pos (by omega)];have hs:=F5n hlt;generalize D76 (l.take i)=d at*;refine⟨ok_,?_⟩;have hU:=D5n (d ^^^ BitVec.ofInt 32 (l.getD i 0));rw[<-G1j]at hU;refine A0 hU rfl (sg_ ?_);refine A8 ⟨i+1,by omega⟩ (by show l.length-(i+1)<l.length-i;omega) (E0 [] [] ?_);simp only[hs,go_sem];exact⟨rfl,(by rw[IntKind.wrap_i64];omega)⟩
  ·rw[if_neg (by omega)];obtain rfl:i=l.length:=by omega
   simp only[List.take_length,go_sem];exact G1h (D76 l)
theorem F8b {α:Type}{enc:α->List AV}{d:α}{l m l':List α}{z n n2:Nat}{g g2:Nat->List AV}(hn:n=l.length)(hg: ∀i,i<n->g i=enc (l.getD i d))(hn2:n2=m.length)(hg2: ∀i,i<n2->g2 i=enc (m.getD i d))(hl:l'=l++m):
  M9 (.dsl z (n+n2) (Sq.app ⟨n,g⟩ ⟨n2,g2⟩).g) (.dsl z l'.length (I8 enc d l')):=by
 subst hn hn2 hl;refine⟨rfl,by simp,λi hi=> ?_⟩;show W0 (if i<l.length then g i else g2 (i-l.length)) (I8 enc d (l++m) i);rw[B3m,B6y];by_cases h:i<l.length
 ·rw[if_pos h,if_pos h,hg i h];exact H9 _
 ·rw[if_neg h,if_neg h,hg2 _ (by omega)];exact H9 _
theorem c8(c k:Nat):IntKind.u8.wrap ((c:Int).fdiv (2^k))=((c / 2^k%256:Nat):Int):=by
 rw[Int.fdiv_eq_ediv_of_nonneg _ (Int.pow_nonneg (by omega)),IntKind.wrap_u8]
 norm_cast
theorem G7m(c:Nat):IntKind.u8.wrap (c:Int)=((c%256:Nat):Int):=by rw[IntKind.wrap_u8];omega
theorem G7n(c:Nat):IntKind.u8.wrap ((c:Int).fdiv (2^min 8 32))=((c / 256%256:Nat):Int):=c8 c 8
theorem G7o(c:Nat):IntKind.u8.wrap ((c:Int).fdiv (2^min 16 32))=((c / 65536%256:Nat):Int):=c8 c 16
theorem G7p(c:Nat):IntKind.u8.wrap ((c:Int).fdiv (2^min 24 32))=((c / 16777216%256:Nat):Int):=c8 c 24
def D74(c:Nat):List Int:= [((c%256:Nat):Int),((c / 256%256:Nat):Int),((c / 65536%256:Nat):Int),((c / 16777216%256:Nat):Int)]
def E1m(l:List Int):List Int:=l++D74 (F3r l).toNat
theorem E08(l:List Int)(hl:l.length<=1000000000):cA_ D9j [A4 1 A2x 0 l] [] (A4 1 A2x 0 (E1m l)) []:=by
 refine en1 hm A6 Tryz.func345 rfl rfl (sg_ ?_);refine A0 (D5m l hl) rfl ?_;have ho:AV.offId 208 (.dsl 1 l.length (I8 A2x 0 l))=true:=rfl;simp only[ho,go_sem];have hw:IntKind.i64.wrap ((l.length:Int)+4)=(l.length:Int)+4:=by rw[IntKind.wrap_i64];omega
 simp only[hw];refine⟨⟨by omega,by omega,by omega,by omega⟩,by omega,by omega,by omega,⟨by omega,(by simp only[maxLen];omega)⟩,?_⟩;have hs:E1m l=l++D74 (F3r l).toNat:=rfl;generalize(F3r l).toNat=c at*;simp only[G7m,G7n,G7o,G7p]
 first |refine⟨rfl,F8b (enc:=A2x) (d:=0) (m:=D74 c) rfl (λi hi=> ?_) rfl (λi hi=> ?_) hs⟩ |refine F8b (enc:=A2x) (d:=0) (m:=D74 c) rfl (λi hi=> ?_) rfl (λi hi=> ?_) hs
 ·show(if 0<=i/\i<min l.length l.length then _ else _)=_;rw[if_pos ⟨by omega,by omega⟩];rfl
 ·match i,hi with
  |0,_=>rfl
  |1,_=>rfl
  |2,_=>rfl
  |3,_=>rfl
end Go.Abs
end
