/- A part of the proof: contracts of functions that the statement reaches. -/
import Derived.Test.YtchcbiiammkhgaaGreatMV
set_option linter.unusedSimpArgs false
set_option linter.unusedVariables false
set_option linter.unnecessarySimpa false
set_option maxRecDepth 100000
set_option maxHeartbeats 2000000
noncomputable section
namespace Go.Abs
open Go.Proofs
open Api
theorem D9v {l:List Api.Input}(h:V3 l=true):A1z l:=by
 unfold V3 at h;split at h
 ·rename_i r hr;subst h;exfalso;have key: ∀n,I8 (P3 l) n ()≠ .inr true:=by
   intro n;induction n with
   |zero=>intro h;cases h
   |succ n ih=>
    intro h;rw[I8]at h;split at h
    ·unfold P3 at h;dsimp only at h;split at h
     ·injection h with h;cases h
     ·cases h
    ·rename_i h';injection h with h;subst h;exact ih h'
  exact key _ hr
 ·rename_i hi;have hl:l.length<=4:=by have:=yc h;omega
  refine⟨o_,λx hx=> ?_⟩;obtain⟨k,hk,rfl⟩:=qG hx;obtain⟨a,b,hab⟩:=C16 hi k hk;unfold P3 at hab;dsimp only at hab;split at hab
  ·cases hab
  ·rename_i hc;simp only[zy,zQ,zk,qy,qK]at hc;have:=(D9u hc.1).2 (l.getD k dF_).cE (zu.2 rfl);rwa[show l.getD k dF_=l[k]by simp[List.getD,hk]]at this
theorem F1t {w:Api.World}{calls:List Api.Call}(h:A6f w calls=true):C5w w/\calls.length<=7/\ ∀c∈calls,A1z c.fI:=by
 unfold A6f at h;dsimp only at h;split at h
 ·cases h
 rename_i h1;simp only[zy,zQ,zk,qy,qK]at h1;obtain⟨⟨⟨⟨⟨g1,g2⟩,g3⟩,g4⟩,g5⟩,g6⟩:=h1;obtain⟨f1,f2⟩:=D9u g1;split at h
 ·rename_i r hr;subst h;exfalso;have key: ∀n,I8 (A5s w) n ()≠ .inr true:=by
   intro n;induction n with
   |zero=>intro h;cases h
   |succ n ih=>
    intro h;rw[I8]at h;split at h
    ·unfold A5s at h;split at h
     ·injection h with h;cases h
     ·cases h
    ·rename_i h';injection h with h;subst h;exact ih h'
  exact key _ hr
 split at h
 ·rename_i r hr;subst h;exfalso;have key: ∀n,I8 (A35 calls) n ()≠ .inr true:=by
   intro n;induction n with
   |zero=>intro h;cases h
   |succ n ih=>
    intro h;rw[I8]at h;split at h
    ·unfold A35 at h;dsimp only at h;split at h
     ·injection h with h;cases h
     ·cases h
    ·rename_i h';injection h with h;subst h;exact ih h'
  exact key _ hr
 rename_i hi;refine⟨⟨o_,o_,o_,o_,f2,trivial⟩,o_,λc hc=> ?_⟩
 ·obtain⟨k,hk,rfl⟩:=qG hc;obtain⟨a,b,hab⟩:=C16 hi k hk;unfold A35 at hab;dsimp only at hab;split at hab
  ·cases hab
  ·rename_i hn;rw[show calls.getD k dF_=calls[k]by simp[List.getD,hk]]at hn;exact D9v (by simpa using hn)
theorem F3o(l:List Int)(hl:l.length<=100000):cA_ 31 [A4 1 A0h 0 l,A4 1 A0h 0 l] [] (sI (-1)) []:=by have:=C2j l l o_ o_;rw[C13 (λj hj=>by simp[B0c];omega)]at this;exact this
def C09(s:Ses)(l:List Api.Call)(k:Nat):Ses:=itr (λi s=>(B8h s (l.getD i dF_)).2) k s
theorem D6x(s:Ses)(l:List Api.Call)(k:Nat):C09 s l (k+1)=(B8h (C09 s l k) (l.getD k dF_)).2:=H7 ..
theorem E39 {s:Ses}(h:B9y s){l:List Api.Call}(hl: ∀c∈l,A1z c.fI): ∀k,k<=l.length->B9y (C09 s l k)
 |0,_=>h
 |k+1,hk=>by rw[D6x];exact(E3d (E39 h hl k o_) (hl _ (B6 dF_ o_))).1
theorem F49 {w:Api.World}{win:Int}(hw:Wsm w)(hn:1<=win/\win<=64):B9y (C76 w win):=by refine⟨⟨hn,zm _,rfl,⟨by show 0<1;decide,by show 1<=65;decide⟩,λx hx=>by rw[zu.1 hx];exact hw,λx hx=>by cases hx⟩,?_⟩;show(1:Int)=min 0 win+1;omega
theorem G0i {P:Program}{m:Nat->Option A7}{f:FuncId}{avs:List AV}{b:Bool}{Q:ContR}{O N:List (Nat×A7)}{r:AV}(hc:D5 P f avs O r (O++N))(h:okO O)(h':((O++N).map (·.1)).Nodup)(hm: ∀p∈O,m p.1=some p.2)
  (hf: ∀p∈N,m p.1=none)(ha: ∀a∈avs,∀i∈a.ids,(ofL O i).isSome)(hid: ∀p∈O,∃av∈avs,p.1∈A76 m av)(hb:b=true)(hK: @Ri Q b ⟨some r,N⟩): @A25 P m f avs b Q:=by
 refine⟨⟨some r,N⟩,λ_=> ?_,λ_=>hb,hK⟩;have:=O9.mk (P:=P) (m:=m) (avs.map λ_=>true) avs O r (O++N) id [] false hc (A86 ha)
  (λi o hi=>by rw[B1j];exact hm _ (A0z h.1 hi))
  (λi cs hi j hj=>h.2 _ (A0z h.1 hi) cs rfl j hj)
  (λi hi=>(A98 h').2 (by rw[qN];exact List.mem_append_left _ ((A98 h.1).1 hi)))
  (λi hi=>by
    have hi:=(A98 h').1 hi;rw[qN]at hi;rcases zj.1 hi with hi |hi
    ·exact .inl ((A98 h.1).2 hi)
    ·obtain⟨p,hp,rfl⟩:=qL.1 hi;exact .inr (hf p hp)) (by simpa using h') (λe=>by cases e)
 have h2:O9 P m f avs ⟨some r,O++N⟩:=by simpa[AV.ren_id,C2b]using this
 exact .dropW _ _ _ h2 hm hid
theorem D5.own0N {P:Program}{f:FuncId}{z:Nat}{g g':Nat->List AV}{r:AV}{o:A7}(h:D5 P f [.dsl z 0 g] [] r [(1,o)]):D5 P f [.sl 3 0 0 0] [(3, .arr z ⟨0,g'⟩)] (r.ren λ_=>7) [(3, .arr z ⟨0,g'⟩),(7,o.ren λ_=>7)]:=by
 refine⟨h.1,λG w ob vals hs hr=> ?_⟩;have hd:=O9.mk (P:=P) (m:=ofL [(3,A7.arr z ⟨0,g'⟩)]) (avs:= [.dsl z 0 g]) [true] [.dsl z 0 g] [] r [(1,o)] (λ_=>7) [] false h ⟨rfl,by simp[AV.ids],rfl⟩ (λi o hi=>by cases hi) (λi cs hi=>by cases hi) (λi hi=>by cases hi) (λj hj=> .inr rfl) p_ (λe=>by cases e)
 have hr':A59 G w ob [.dsl z 0 g] vals:=by
  refine⟨hr.1,λj av hj=> ?_⟩;have h0:=hr.2 0 _ rfl;cases j with
  |zero=>
   simp only[List.getElem?_cons_zero,za]at hj;subst hj;generalize vals.getD 0 undef=v at h0⊢;cases h0 with
   |sl i hi hle hss hv=>
    have ho:=hs.own 3 _ i rfl hi;obtain⟨_,h2,h3⟩:=hv ho.2.2.1;cases hb:i.blk with
    |none=>
     rcases h2 hb with rfl |⟨a,rfl⟩
     ·exact .dslNil
     ·exact .dslE a 0
    |some b=>obtain⟨o,c,rfl,_⟩:=h3 b hb;exact .dslE _ c
  |succ j=>simp at hj
 refine(C9t hd hs hr').mono ?_;rintro e w' ⟨v,G',ob',rfl,h1,h2,h3,h4⟩;exact⟨v,G',ob',rfl,h1,h2 _ rfl,h4,h3⟩
theorem G1a {k z:Nat}{s:Sq}:okO [(k, .arr z s)]:=⟨p_,λp hp cs ee=>by rw[zu.1 hp]at ee;cases ee⟩
theorem G06 {m:Nat->Option A7}{k z:Nat}{s:Sq}{n t:Nat}{l:List AV}: ∀p∈ [(k,A7.arr z s)],∃av∈AV.sl k 0 n t::l,p.1∈A76 m av:=λp hp=>⟨_,qp ..,C3l (by rw[zu.1 hp];simp[AV.ids])⟩
theorem G02 {k z:Nat}{s:Sq}{n t:Nat}{l:List AV}(hl:F6 l= []): ∀a∈AV.sl k 0 n t::l,∀i∈a.ids,(ofL [(k,A7.arr z s)] i).isSome:=by
 intro a ha i hi;rcases zo.1 ha with rfl |ha
 ·simp[AV.ids]at hi;subst hi;rw[A98 p_];simp
 ·have:i∈F6 l:=B8y.2 ⟨a,ha,hi⟩
  rw[hl]at this;cases this
theorem G1c {m:Nat->Option A7}{s:Ses}{o:Nat}{l:List AV}(hm: ∀p∈rsO s,m p.1=some p.2): ∀p∈rsO s,∃av∈AV.ptr 1 0 o 1::l,p.1∈A76 m av:=by have h1:m 1=some (.box (rsC s)):=hm (1, .box (rsC s)) (qp ..);refine λp hp=>⟨_,qp ..,?_⟩;simp only[rsO,zo,zr,zU]at hp;rcases hp with rfl |rfl |rfl |rfl <;> simp[A76,AV.ids,h1,rsC,F6]
theorem G0z(l:List (List Api.Input))(hlen:l.length<=4096)(hl: ∀x∈l,A1z x):cA_ 128 [.sl 2 0 l.length l.length] [(2, .arr 1 (B0 X7 dF_ l))] (.sl 6 0 l.length l.length) [(2, .arr 1 (B0 X7 dF_ l)),(6, .arr 1 (B0 X7 dF_ l))]:=by
 refine A8m hm A6 Tryz.func128 rfl rfl ?_;refine B2 [(0, .cA, .sl 2 0 l.length l.length)] [(2, .arr 1 (B0 X7 dF_ l))] (B9 hm ?_) ?_
 ·refine st_ ?_;exact A9 [] [] se_
 refine B2 [(0, .cA, .sl 2 0 l.length l.length),(3, .fA, .sl 6 0 (l.take (0)).length (l.take (0)).length)] [(2, .arr 1 (B0 X7 dF_ l)),(6, .arr 1 (B0 X7 dF_ (l.take (0))))] (B9 hm ?_) ?_
 ·refine st_ ?_;exact A9 [] [6] se_
 refine B2 [(0, .cA, .sl 2 0 l.length l.length),(3, .cA, .sl 6 0 (l.take (l.length)).length (l.take (l.length)).length)] [(2, .arr 1 (B0 X7 dF_ l)),(6, .arr 1 (B0 X7 dF_ (l.take (l.length))))] (B2 [(0, .cA, .sl 2 0 l.length l.length),(3, .cA, .sl 6 0 (l.take (0)).length (l.take (0)).length),(6, .cA, .sl 2 0 l.length l.length),(7, .cA,sI l.length),(8, .cA,sI (0:Nat))] [(2, .arr 1 (B0 X7 dF_ l)),(6, .arr 1 (B0 X7 dF_ (l.take (0))))] (B9 hm ?_) (V0 ?_)) ?_
 ·refine st_ ?_;exact A9 [] [] se_
 ·refine B1 hm (ι:= {k:Nat // k<=l.length}) (λk=> [(0, .cA, .sl 2 0 l.length l.length),(3, .cA, .sl 6 0 (l.take (k.1)).length (l.take (k.1)).length),(6, .cA, .sl 2 0 l.length l.length),(7, .cA,sI l.length),(8, .cA,sI (k.1:Nat))]) (λk=> [(2, .arr 1 (B0 X7 dF_ l)),(6, .arr 1 (B0 X7 dF_ (l.take (k.1))))]) (λk=>l.length-k.1) ⟨0,zm _⟩ ?_ ?_
  ·exact A9 [] [] se_
  ·rintro⟨k,hk⟩;dsimp only;have hln2:(l.take k).length=k:=by rw[zt];omega
   by_cases hlt:k<l.length;rotate_left
   ·obtain rfl:k=l.length:=o_
    refine st_ ?_;rw[zb o_];exact A9 [] [] se_
   have hx:=hl _ (B6 (l:=l) (i:=k) dF_ hlt)
   have hn:l.take (k+1)=l.take k++ [l.getD k dF_]:=K9 dF_ hlt;refine st_ ?_;rw[zc o_];generalize l.getD k dF_=x at hn hx⊢;refine⟨bE_,?_⟩;refine A0 (D1x x hx) rfl (st_ ?_);refine⟨bE_,?_⟩;refine A8 ⟨k+1,o_⟩ (by show l.length-(k+1)<l.length-k;omega) ?_;simp only[hn];generalize l.take k=m at hln2⊢;refine A9 [] [] (st_ ?_)
   (with_reducible and_intros) <;> first |exact A0q x rfl rfl |(rw[zd];rfl) |exact eE_
 rw[zn];refine B9 hm (st_ ?_);exact B8 [.cA] [] [] se_
theorem G0y(l:List (List Api.Input))(hlen:l.length<=4096)(hl: ∀x∈l,A1z x):cA_ 70 [.sl 2 0 l.length l.length,sI 0,sI l.length] [(2, .arr 1 (B0 X7 dF_ l))] (.sl 6 0 l.length l.length) [(2, .arr 1 (B0 X7 dF_ l)),(6, .arr 1 (B0 X7 dF_ l))]:=by
 refine I6 hm A6 Tryz.func70 rfl rfl (st_ ?_);by_cases h:l= []
 ·subst h;rw[zc p_];exact B8 [.fA] [] [6] se_
 ·have hp:0<l.length:=qu.2 h
  simp only[Int.lt_irrefl,zJ];rw[zb o_];simp only[go_sem,go_sem_proc,Int.toNat_zero,Nat.sub_zero,Int.sub_zero];refine⟨bE_,?_⟩;refine G0i (O:= [(2, .arr 1 (B0 X7 dF_ l))]) (N:= [(6, .arr 1 (B0 X7 dF_ l))]) (G0z l hlen hl) G1a p_ (by simp[upd,go_sem,go_sem_proc]) (by simp[upd,go_sem,go_sem_proc]) (G02 rfl) G06 rfl (st_ ?_);exact B8 [.cA] [] [] se_
theorem G0w(l:List Int)(hl:l.length<=1048576):cA_ 69 [.sl 3 0 l.length l.length] [(3, .arr 1 (B0 A0h 0 l))] (.sl 7 0 l.length l.length) [(3, .arr 1 (B0 A0h 0 l)),(7, .arr 1 (B0 A0h 0 l))]:=by
 by_cases h:l= []
 ·subst h;exact D5.own0N (E59 [] p_)
 ·have hp:0<l.length:=qu.2 h
  refine I6 hm A6 Tryz.func69 rfl rfl (st_ ?_);refine⟨hp,?_⟩;refine⟨bE_,?_⟩;exact B8 [.cA] [(7,96)] [] se_
theorem G0x(s:Ses)(hw:s.win≠0)(hl:s.hs.length<=100000):cA_ 28 [.ptr 1 0 0 1] (rsO s) (.sl 7 0 s.hs.length s.hs.length) (rsO s++ [(7, .arr 1 (B0 A0h 0 s.hs))]):=by refine I6 hm A6 Tryz.func28 rfl rfl (st_ ?_);refine V4 (Y1 s hw) (st_ ?_);refine G0i (O:= [(3, .arr 1 (B0 A0h 0 s.hs))]) (N:= [(7, .arr 1 (B0 A0h 0 s.hs))]) (G0w s.hs o_) G1a p_ (by simp[upd,go_sem,go_sem_proc]) (by simp[upd,go_sem,go_sem_proc]) (G02 rfl) G06 rfl (st_ ?_);exact B8 [.cA] [] [] se_
theorem G0q(s:Ses)(hw:s.win≠0)(hlen:s.ins.length<=4096)(hl: ∀x∈s.ins,A1z x):cA_ 29 [.ptr 1 0 0 1] (rsO s) (.sl 6 0 s.ins.length s.ins.length) (rsO s++ [(6, .arr 1 (B0 X7 dF_ s.ins))]):=by refine I6 hm A6 Tryz.func29 rfl rfl (st_ ?_);refine V4 (Y1 s hw) (st_ ?_);refine V4 (Y0 s) (st_ ?_);refine G0i (O:= [(2, .arr 1 (B0 X7 dF_ s.ins))]) (N:= [(6, .arr 1 (B0 X7 dF_ s.ins))]) (G0y s.ins hlen hl) G1a p_ (by simp[upd,go_sem,go_sem_proc]) (by simp[upd,go_sem,go_sem_proc]) (G02 rfl) G06 rfl (st_ ?_);exact B8 [.cA] [] [] se_
def rtC(s:Ses):List AV:= [.sl 6 0 s.ins.length s.ins.length, .sl 7 0 s.hs.length s.hs.length,sI s.re, .sl 8 0 s.ws.length s.ws.length,sI s.win]
def rtO(s:Ses):List (Nat×A7):= [(5, .box (rtC s)),(6, .arr 1 (B0 X7 dF_ s.ins)),(7, .arr 1 (B0 A0h 0 s.hs)),(8, .arr 11 (B0 World.enc dF_ s.ws))]
attribute [go_sem] rtC rtO
theorem G1g {s c:Ses}:okO (rsO s++rtO c):=by
 refine⟨by simp[rsO,rtO],λp hp cs ee j hj=> ?_⟩;simp only[rsO,rtO,List.cons_append,List.nil_append,zo,zr,zU]at hp;rcases hp with rfl |rfl |rfl |rfl |rfl |rfl |rfl |rfl
 all_goals cases ee
 ·simp[rsC,F6,AV.ids]at hj;rcases hj with rfl |rfl |rfl <;> rfl
 ·simp[rtC,F6,AV.ids]at hj;rcases hj with rfl |rfl |rfl <;> rfl
def C2w:Slots:= [(0, .cA, .ptr 1 0 0 1),(3, .cA, .ptr 5 0 0 1)]
attribute [go_sem] C2w
theorem G1b(s:Ses)(h:B9y s):cA_ 34 [.ptr 1 0 0 1] (rsO s) (.ptr 5 0 0 1) (rsO s++rtO s):=by
 have hwin:=h.ok.win
 have hw0:s.win≠0:=o_
 have hlen:=h.len
 have hin:=h.ok.ins
 have hhs:=h.ok.hs
 have hws:=h.ok.ws
 have hw1:IntKind.i64.wrap (s.win+1)=s.win+1:=wo_;refine A8m hm A6 Tryz.func34 rfl rfl ?_;refine B2 [(0, .cA, .ptr 1 0 0 1)] (rsO s) (B9 hm ?_) ?_
 ·refine st_ ?_;exact A9 [] [] se_
 refine B2 [(0, .cA, .ptr 1 0 0 1)] (rsO s) (B9 hm ?_) ?_
 ·refine st_ ?_;refine V4 (Y1 s hw0) (st_ ?_);exact A9 [] [] se_
 refine B2 C2w (rsO s++ [(5, .box [.sc (.slice none 0 0), .sc (.slice none 0 0),sI 0, .sc (.slice none 0 0),sI s.win])]) (B9 hm ?_) ?_
 ·refine st_ ?_;exact A9 [(5,224)] [] se_
 refine B2 C2w (rsO s++rtO {s with ws:=s.ws.take (0)}) (B9 hm ?_) ?_
 ·refine st_ ?_;refine G0i (O:=rsO s) (N:= [(6, .arr 1 (B0 X7 dF_ s.ins))]) (G0q s hw0 hin h.ok.im) A5o (by simp[rsO]) (by simp[upd,go_sem,go_sem_proc]) (by simp[upd,go_sem,go_sem_proc]) (A6n 0) (G1c (by simp[upd,go_sem,go_sem_proc])) rfl (st_ ?_);refine G0i (O:=rsO s) (N:= [(7, .arr 1 (B0 A0h 0 s.hs))]) (G0x s hw0 o_) A5o (by simp[rsO]) (by simp[upd,go_sem,go_sem_proc]) (by simp[upd,go_sem,go_sem_proc]) (A6n 0) (G1c (by simp[upd,go_sem,go_sem_proc])) rfl (st_ ?_);exact A9 [] [8] se_
 refine B2 C2w (rsO s++rtO {s with ws:=s.ws.take (s.ws.length)}) (B2 (C2w++ [(31, .cA, .sl 4 0 s.ws.length s.ws.length),(32, .cA,sI s.ws.length),(33, .cA,sI (0:Nat))]) (rsO s++rtO {s with ws:=s.ws.take (0)}) (B9 hm ?_) (V0 ?_)) ?_
 ·refine st_ ?_;exact A9 [] [] se_
 ·refine B1 hm (ι:= {k:Nat // k<=s.ws.length}) (λk=>(C2w++ [(31, .cA, .sl 4 0 s.ws.length s.ws.length),(32, .cA,sI s.ws.length),(33, .cA,sI (k.1:Nat))])) (λk=>(rsO s++rtO {s with ws:=s.ws.take (k.1)})) (λk=>s.ws.length-k.1) ⟨0,zm _⟩ ?_ ?_
  ·exact A9 [] [] se_
  ·rintro⟨k,hk⟩;dsimp only;have hln2:(s.ws.take k).length=k:=by rw[zt];omega
   by_cases hlt:k<s.ws.length;rotate_left
   ·obtain rfl:k=s.ws.length:=o_
    refine st_ ?_;rw[zb o_];exact A9 [] [] se_
   have hx:=h.ok.sm _ (B6 (l:=s.ws) (i:=k) dF_ hlt)
   have hn:s.ws.take (k+1)=s.ws.take k++ [s.ws.getD k dF_]:=K9 dF_ hlt
   have hP:=E6b {s with ws:=s.ws.take k} (s.ws.getD k dF_) (s.win+1) (by show(s.ws.take k).length<=1000;omega) (by show((s.ws.take k).length:Int)+1<=s.win+1;omega);rw[show({s with ws:=s.ws.take k}:Ses).ws++ [s.ws.getD k dF_]=s.ws.take (k+1)from hn.symm]at hP;refine st_ ?_;rw[zc o_];generalize s.ws.getD k dF_=x at hn hx hP⊢;refine⟨bE_,?_⟩;refine A0 (B04 x hx) rfl (st_ ?_);rw[hw1];refine B5 [true,false,true] [(1,5),(2,6),(3,7),(4,8)] hP (by simp[rsO]) (by simp[rsO]) (by simp[rsO,J1]) g_ (st_ ?_);refine A8 ⟨k+1,o_⟩ (by show s.ws.length-(k+1)<s.ws.length-k;omega) ?_;exact A9 [] [] se_
 rw[zn];refine B9 hm (st_ ?_);exact B8 [.cA] [] [] se_
theorem G1f:okO (rn0 0):=by refine⟨by simp[rn0],λp hp cs ee j hj=> ?_⟩;simp only[rn0,zo,zr,zU]at hp;subst hp;simp only[A7.box.injEq]at ee;subst ee;simp[F6,AV.ids]at hj
theorem G0h {P:Program}{m:Nat->Option A7}{f:FuncId}{b:Bool}{Q:ContR}{o:Nat}{l:List AV}{r:AV}(hc:D5 P f (.ptr 1 0 o 1::l) (rn0 0) r (rn0 0))(hl:F6 l= [])(hm: ∀p∈rn0 0,m p.1=some p.2)(hK: @Ri Q b ⟨some r,[]⟩): @A25 P m f (.ptr 1 0 o 1::l) b Q:=by refine E4o hc G1f hm (B15 rfl hl) (λp hp=>⟨_,qp ..,?_⟩) hK;simp only[rn0,zo,zr,zU]at hp;subst hp;simp[A76,AV.ids]
theorem C4:cA_ 60 [.sc (.pointer none)] [] (sB true) []:=by exact en1 hm A6 Tryz.func60 rfl rfl se_
theorem G0g:cA_ 60 [.ptr 1 0 0 1] (rn0 0) (sB true) (rn0 0):=by refine I6 hm A6 Tryz.func60 rfl rfl (st_ ?_);exact B8 [.cA] [] [] se_
theorem G0u:cA_ 20 [.sc (.pointer none), .sc (.slice none 0 0)] [] (sI 1) []:=by refine en1 hm A6 Tryz.func20 rfl rfl (st_ ?_);exact A0 C4 rfl se_
theorem G0p:cA_ 33 [.sc (.pointer none),sI 0, .sc (.slice none 0 0)] [] (sI 1) []:=by refine en1 hm A6 Tryz.func33 rfl rfl (st_ ?_);exact A0 C4 rfl se_
theorem G07:cA_ 34 [.sc (.pointer none)] [] (.sc (.pointer none)) []:=by refine en1 hm A6 Tryz.func34 rfl rfl (st_ ?_);exact A0 C4 rfl se_
theorem G08:cA_ 21 [.sc (.pointer none)] [] (sI 0) []:=by refine en1 hm A6 Tryz.func21 rfl rfl (st_ ?_);exact A0 C4 rfl se_
theorem G0m:cA_ 22 [.sc (.pointer none)] [] (sI 0) []:=by refine en1 hm A6 Tryz.func22 rfl rfl (st_ ?_);exact A0 C4 rfl se_
theorem G0n:cA_ 30 [.sc (.pointer none)] [] (sI 0) []:=by refine en1 hm A6 Tryz.func30 rfl rfl (st_ ?_);exact A0 C4 rfl se_
theorem G00:cA_ 28 [.sc (.pointer none)] [] (.sc (.slice none 0 0)) []:=by refine en1 hm A6 Tryz.func28 rfl rfl (st_ ?_);exact A0 C4 rfl se_
theorem G0v:cA_ 35 [.sc (.pointer none),sI 0] [] (.tup [.agg (dF_:Api.World).enc,sI 1]) []:=by refine S3 33 [(4,some (some 11)),(5,none)] hm A6 Tryz.func35 rfl (st_ ?_);exact A0 C4 rfl se_
theorem G09:cA_ 23 [.sc (.pointer none)] [] (.agg (dF_:Api.World).enc) []:=by refine M3 11 [(2,some (some 11))] hm A6 Tryz.func23 rfl (st_ ?_);exact A0 C4 rfl se_
theorem G0s:cA_ 20 [.ptr 1 0 0 1, .sc (.slice none 0 0)] (rn0 0) (sI 1) (rn0 0):=by refine I6 hm A6 Tryz.func20 rfl rfl (st_ ?_);refine G0h G0g rfl (by simp[upd,go_sem,go_sem_proc]) (st_ ?_);exact B8 [.cA] [] [] se_
theorem G0o:cA_ 33 [.ptr 1 0 0 1,sI 0, .sc (.slice none 0 0)] (rn0 0) (sI 1) (rn0 0):=by refine I6 hm A6 Tryz.func33 rfl rfl (st_ ?_);refine G0h G0g rfl (by simp[upd,go_sem,go_sem_proc]) (st_ ?_);exact B8 [.cA] [] [] se_
theorem G03:cA_ 34 [.ptr 1 0 0 1] (rn0 0) (.sc (.pointer none)) (rn0 0):=by refine I6 hm A6 Tryz.func34 rfl rfl (st_ ?_);refine G0h G0g rfl (by simp[upd,go_sem,go_sem_proc]) (st_ ?_);exact B8 [.cA] [] [] se_
theorem G04:cA_ 21 [.ptr 1 0 0 1] (rn0 0) (sI 0) (rn0 0):=by refine I6 hm A6 Tryz.func21 rfl rfl (st_ ?_);refine G0h G0g rfl (by simp[upd,go_sem,go_sem_proc]) (st_ ?_);exact B8 [.cA] [] [] se_
theorem G0r:cA_ 29 [.ptr 1 0 0 1] (rn0 0) (.sc (.slice none 0 0)) (rn0 0):=by refine I6 hm A6 Tryz.func29 rfl rfl (st_ ?_);refine G0h G0g rfl (by simp[upd,go_sem,go_sem_proc]) (st_ ?_);exact B8 [.cA] [] [] se_
theorem G0t:cA_ 35 [.ptr 1 0 0 1,sI 0] (rn0 0) (.tup [.agg (dF_:Api.World).enc,sI 1]) (rn0 0):=by refine C8j 33 [(4,some (some 11)),(5,none)] hm A6 Tryz.func35 rfl (st_ ?_);refine G0h G0g rfl (by simp[upd,go_sem,go_sem_proc]) (st_ ?_);exact B8 [.eP, .cA] [] [] se_
theorem G05:cA_ 23 [.ptr 1 0 0 1] (rn0 0) (.agg (dF_:Api.World).enc) (rn0 0):=by refine C29 11 [(2,some (some 11))] hm A6 Tryz.func23 rfl (st_ ?_);refine G0h G0g rfl (by simp[upd,go_sem,go_sem_proc]) (st_ ?_);exact B8 [.eP] [] [] se_
theorem G1e:Wsm (dF_:Api.World):=by refine⟨?_,?_,?_,?_,?_,?_⟩ <;> first |exact zm _ |exact λx hx=>absurd hx zr
theorem G01:cA_ 15 [.agg (dF_:Api.World).enc, .agg World.zero] [] (sB true) []:=by have:=E2p (dF_:Api.World) dF_ G1e;rw[zT rfl]at this;refine this.args_le (A9v _ _ ?_);exact se_
theorem G1d {s:Ses}{c:Api.Call}(h:B9y s)(hl:A1z c.fI):s.ins.length<=(B8h s c).2.ins.length/\(B8h s c).2.win=s.win:=by
 obtain⟨h,hlen⟩:=h;have hw:=h.win
 have hws:=h.ws;unfold B8h;split
 ·unfold D5c;split
  ·exact⟨ze _,rfl⟩
  rename_i h1;split
  ·exact⟨ze _,rfl⟩
  rename_i h2;split
  ·rename_i a ha;have:B80 s<=c.eJ:=o_
   unfold B80 at this;have:=D8v (s:=s) (f:=c.eJ.toNat) (l:=c.fI) h hl o_ (by simpa using h2) o_ _ a (ze _) ha;obtain⟨g1,g2,g3,g4,g5⟩:=this;refine⟨?_,rfl⟩;show s.ins.length<=a.1.length;omega
  ·exact⟨ze _,rfl⟩
 ·unfold D4r;split
  ·exact⟨ze _,rfl⟩
  split
  ·exact⟨ze _,rfl⟩
  split
  ·exact⟨ze _,rfl⟩
  refine⟨?_,rfl⟩;show s.ins.length<=(s.ins++ [c.fI]).length;simp
theorem C5 {P:Program}{m:Nat->Option A7}{f:FuncId}{b:Bool}{Q:ContR}{s:Ses}{o:Nat}{r:AV}(i1 i2 i3 i4:Nat)(hc:D5 P f [.ptr 1 0 o 1] (rsO s) r (rsO s))(hn: [i1,i2,i3,i4].Nodup)
  (h1:m i1=some (.box [.sl i2 0 s.ins.length s.ins.length, .sl i3 0 s.hs.length s.hs.length,sI s.re, .sl i4 0 s.ws.length s.ws.length,sI s.win]))(h2:m i2=some (.arr 1 (B0 X7 dF_ s.ins)))(h3:m i3=some (.arr 1 (B0 A0h 0 s.hs)))
  (h4:m i4=some (.arr 11 (B0 World.enc dF_ s.ws)))(hK: @Ri Q b ⟨some (r.ren (J1 [(1,i1),(2,i2),(3,i3),(4,i4)])),[]⟩): @A25 P m f [.ptr i1 0 o 1] b Q:=by
 refine B7k [true] [(1,i1),(2,i2),(3,i3),(4,i4)] hc (by simp[rsO]) hn (λp hp=>⟨_,qp ..,?_⟩)
  ⟨rfl,A6n o _ (zu.2 rfl),rfl,⟨h1,λj hj=>A5o.2 (1, .box (rsC s)) (qp ..) _ rfl j hj,h2,trivial,h3,trivial,h4,trivial,trivial⟩,hK⟩
 simp only[rsO,zo,zr,zU]at hp;rcases hp with rfl |rfl |rfl |rfl <;> simp[A76,AV.ids,h1,F6,J1]
def G0j(w:Api.World)(win:Int)(calls:List Api.Call)(last:Api.Call):Slots:= [(1, .cA,sI win),(2, .cA,A4 3 Api.Call.enc dF_ calls),(4, .cA, .dE w.enc),(7, .cA, .dE last.enc)]
attribute [go_sem] G0j
def G0l(calls:List Api.Call)(last:Api.Call):Slots:= [(2, .cA,A4 3 Api.Call.enc dF_ calls),(7, .cA, .dE last.enc),(15, .cA, .ptr 1 0 0 1)]
attribute [go_sem] G0l
theorem G0k(w:Api.World)(win:Int)(calls:List Api.Call)(last:Api.Call)(hb:w.cC.length<=9223372036854775807)(hcl:calls.length<=9223372036854775807)(hci: ∀i,i<calls.length->(calls.getD i dF_).fI.length<=9223372036854775807)(hli:last.fI.length<=9223372036854775807):
  cA_ 6 [.agg w.enc,sI win,A4 3 Api.Call.enc dF_ calls, .agg last.enc] [] (sB true) []:=by
 have hS:=D7u w calls hb hcl hci
 have hF:=D0b last.fI hli
 have hX:=D3y;refine E5h hm A6 Tryz.func6 rfl rfl ?_;refine B2 [(1, .cA,sI win),(2, .cA,A4 3 Api.Call.enc dF_ calls),(4, .eP, .dE w.enc),(7, .eP, .dE last.enc)] [] (B9 hm ?_) ?_
 ·refine st_ ?_;refine A9 [] [] ?_;simp only[go_sem,go_sem_proc,A2m]
  all_goals exact eE_
 refine B2 (G0j w win calls last++ [(9, .cA, .sc (.pointer none))]) [] (B9 hm ?_) ?_
 ·refine st_ ?_;exact A9 [] [] se_
 refine B2 (G0j w win calls last++ [(9, .cA, .sc (.pointer none)),(10, .cA, .ptr 1 0 0 1)]) (rn0 0) (B9 hm ?_) ?_
 ·refine st_ ?_;exact A9 [(1,368)] [] se_
 refine B2 (G0j w win calls last++ [(9, .cA, .sc (.pointer none)),(10, .cA, .ptr 1 0 0 1)]) (rn0 0) (B9 hm ?_) ?_
 ·refine st_ ?_;refine A0 G0u rfl (st_ ?_);refine G0h G0s rfl (by simp[upd,go_sem,go_sem_proc]) (st_ ?_);refine A0 G0p rfl (st_ ?_);refine G0h G0o rfl (by simp[upd,go_sem,go_sem_proc]) (st_ ?_);refine A0 G07 rfl (st_ ?_);refine G0h G03 rfl (by simp[upd,go_sem,go_sem_proc]) (st_ ?_);refine A0 G08 rfl (st_ ?_);refine A0 G0m rfl (st_ ?_);refine A0 G0n rfl (st_ ?_);refine G0h G04 rfl (by simp[upd,go_sem,go_sem_proc]) (st_ ?_);refine A0 G00 rfl (st_ ?_);refine G0h G0r rfl (by simp[upd,go_sem,go_sem_proc]) (st_ ?_);exact A9 [] [] se_
 refine B2 (G0j w win calls last++ [(9, .cA, .sc (.pointer none)),(10, .cA, .ptr 1 0 0 1),(12, .cA,sI 1)]) (rn0 0) (B9 hm ?_) ?_
 ·refine st_ ?_;refine A0 G0v rfl (st_ ?_);exact A9 [] [] se_
 refine B2 (G0j w win calls last++ [(9, .cA, .sc (.pointer none)),(10, .cA, .ptr 1 0 0 1),(12, .cA,sI 1),(14, .cA,sI 1)]) (rn0 0) (B9 hm ?_) ?_
 ·refine st_ ?_;refine G0h G0t rfl (by simp[upd,go_sem,go_sem_proc]) (st_ ?_);exact A9 [] [] se_
 refine B2 (G0j w win calls last) [] (B9 hm ?_) ?_
 ·refine st_ ?_;refine A0 G09 rfl (st_ ?_);refine A0 G01 rfl (st_ ?_);refine G0h G05 rfl (by simp[upd,go_sem,go_sem_proc]) (st_ ?_);refine A0 G01 rfl (st_ ?_);exact A9 [] [] se_
 by_cases hd:A6f w calls=true/\V3 last.fI=true;rotate_left
 ·refine B9 hm (st_ ?_);refine A0 hS rfl (st_ ?_);cases h1:A6f w calls with
  |false=>
   (try simp only[go_sem,go_sem_proc])
   refine D2e (sB false) (st_ ?_);exact A0 hX rfl se_
  |true=>
   (try simp only[go_sem,go_sem_proc])
   refine A0 hF rfl ?_;have h2:V3 last.fI=false:=by simpa[h1]using hd
   simp only[go_sem,go_sem_proc,h2];exact A0 hX rfl se_
 obtain⟨hd1,hd2⟩:=hd;rw[hd1]at hS;rw[hd2]at hF;obtain⟨hw0,hc7,hcs⟩:=F1t hd1;have hls:=D9v hd2;refine B2 (G0j w win calls last) [] (B9 hm ?_) ?_
 ·refine st_ ?_;refine A0 hS rfl (st_ ?_);refine A0 hF rfl (st_ ?_);exact A9 [] [] se_
 by_cases hv:B7 w=0/\(1<=win/\win<=64);rotate_left
 ·refine B9 hm (st_ ?_);have hN: ∃c:Int,c≠0/\cA_ 19 [.agg w.enc,sI win] [] (.tup [.sc (.pointer none),sI c]) []:=by
   by_cases h1:B7 w=0
   ·exact⟨2,by decide,E2h w win (E86 hw0 h1) h1 (λh=>hv ⟨h1,h⟩)⟩
   ·exact⟨18,by decide,E0w w win hw0 h1⟩
  obtain⟨c,hc,hN⟩:=hN;refine A0 hN rfl (st_ ?_);exact A0 hX rfl se_
 obtain⟨hv,hn⟩:=hv;have hw:=E86 hw0 hv
 have hI:=F49 hw hn;refine B2 (G0l calls last++ [(12, .cA,sI 0)]) (rsO (C76 w win)) (B9 hm ?_) ?_
 ·refine st_ ?_;refine K6 (O:= []) (E0v w win hw hv hn) ⟨p_,p_⟩ A5o p_ p_ p_ (by simp[AV.ids,F6,World.enc,A4]) rfl (st_ ?_);exact A9 [] [] se_
 refine B2 (G0l calls last) (rsO (C76 w win)) (B9 hm ?_) ?_
 ·refine st_ ?_;exact A9 [] [] se_
 generalize C76 w win=s0 at hI⊢;have hR:=E39 hI hcs;refine B2 (G0l calls last) (rsO (C09 s0 calls calls.length)) (B2 (G0l calls last++ [(16, .cA,sI (0:Nat))]) (rsO s0) (B9 hm ?_) (V0 ?_)) ?_
 ·refine st_ ?_;exact A9 [] [] se_
 ·refine B1 hm (ι:= {k:Nat // k<=calls.length}) (λk=>(G0l calls last++ [(16, .cA,sI (k.1:Nat))])) (λk=>rsO (C09 s0 calls k.1)) (λk=>calls.length-k.1) ⟨0,zm _⟩ ?_ ?_
  ·show V5 _ _ (G0l calls last++ [(16, .cA,sI (0:Nat))]) (rsO s0);exact A9 [] [] se_
  ·rintro⟨k,hk⟩;dsimp only;have hRk:=hR k hk;by_cases hlt:k<calls.length
   ·obtain⟨O,hO1,hO2⟩:=C48 (C09 s0 calls k) (calls.getD k dF_) hRk (hcs _ (B6 dF_ hlt));rw[<-D6x]at hO1;generalize(B8h (C09 s0 calls k) (calls.getD k dF_)).1=e at hO2;generalize C09 s0 calls k=s at hO2 hRk⊢;refine st_ ?_;rw[zc o_];refine⟨bE_,?_⟩;refine K6 hO2 A5o hO1.ok (λi hi=>hO1.keys.1 i (by simpa[rsO]using hi)) (by simp[upd,go_sem,go_sem_proc]) (λi hi hn=>by have:=hO1.keys.2 i hi;simp[rsO]at hn;simp[upd,rsO];(repeat' split) <;> first |omega |rfl) (B15 rfl (by simp[F6,AV.ids,A4])) rfl (st_ ?_);refine A8 ⟨k+1,o_⟩ (by show calls.length-(k+1)<calls.length-k;omega) ?_;generalize C09 s0 calls (k+1)=s' at hO1⊢;rcases hO1 with rfl |⟨old,rfl⟩ |⟨s1,f1,a1,e1,rfl⟩
    ·exact A9 [] [] se_
    ·exact A9 [(4,5)] [] se_
    ·refine A9 [(2,8),(3,9),(4,6)] [] ?_;simp only[go_sem,go_sem_proc,e1,D25]
     all_goals exact eE_
   ·obtain rfl:k=calls.length:=o_
    refine st_ ?_;rw[zb o_];exact A9 [] [] se_
 have hRn:=hR calls.length (ze _);generalize C09 s0 calls calls.length=s at hRn⊢;have hok:=hRn.ok
 have hw1:s.win≠0:=by have:=hok.win;omega
 have hWl:=hok.last
 have C1:=D3o s hw1 hok.ws.1 (by have:=hok.ws;omega) hWl;rw[show s.ws.getD (s.ws.length-1) dF_=A0a s from rfl]at C1;have C2:=C96 s hw1 (by have:=hok.hs;have:=hok.ins;omega)
 have C3:=A8t s hok.win (by have:=hok.ins;omega);generalize A0a s=x at hWl C1;refine B2 [(7, .cA, .dE last.enc),(15, .cA, .ptr 1 0 0 1),(17, .cA, .ptr 5 0 0 1)] (rsO s++rtO s) (B9 hm ?_) ?_
 ·refine st_ ?_;refine K6 (G1b s hRn) A5o G1g (by simp[rsO,rtO]) (by simp[upd,go_sem,go_sem_proc]) (by simp[rsO,rtO,upd]) (A6n 0) rfl (st_ ?_);exact A9 [] [] se_
 refine B2 [(7, .cA, .dE last.enc),(15, .cA, .ptr 1 0 0 1),(17, .cA, .ptr 5 0 0 1)] (rsO s++rtO s) (B9 hm ?_) ?_
 ·refine st_ ?_;exact A9 [] [] se_
 refine B2 [(7, .cA, .dE last.enc),(15, .cA, .ptr 1 0 0 1),(17, .cA, .ptr 5 0 0 1),(18, .eP, .dE x.enc),(19, .cA,A4 1 A0h 0 s.hs)] (rsO s++rtO s) (B9 hm ?_) ?_
 ·refine st_ ?_;refine V4 C1 (st_ ?_);refine V4 C2 (st_ ?_);refine A9 [] [] ?_;simp only[go_sem,go_sem_proc,A2m]
  all_goals exact eE_
 obtain⟨O,hO1,hO2⟩:=C48 s last hRn hls;have hst:=(E3d hRn hls).1
 have hmo:=G1d hRn hls;generalize(B8h s last).1=e at hO2;generalize(B8h s last).2=s' at hO1 hst hmo;refine B2 [(7, .cA, .dE last.enc),(15, .cA, .ptr 1 0 0 1),(17, .cA, .ptr 5 0 0 1),(18, .cA, .dE x.enc),(19, .cA,A4 1 A0h 0 s.hs),(20, .cA,sI e)] (rsO s++rtO s') (B9 hm ?_) ?_
 ·refine st_ ?_;rcases hO1 with rfl |⟨old,rfl⟩ |⟨s1,f1,a1,e1,rfl⟩
  ·refine B5 [true,false] [(1,5),(2,6),(3,7),(4,8)] hO2 (by simp[rsO]) (by simp[rsO]) (by simp[rsO,J1]) g_ (st_ ?_);exact A9 [] [] se_
  ·refine B5 [true,false] [(1,5),(2,6),(3,7),(4,8),(5,12)] hO2 (by simp[rsO]) (by simp[C08]) (by simp[C08,J1]) g_ (st_ ?_);exact A9 [(8,12)] [] se_
  ·refine B5 [true,false] [(1,5),(2,6),(3,7),(4,8),(6,12),(8,13),(9,14)] hO2 (by simp[rsO]) (by simp[B8w]) (by simp[B8w,J1]) g_ (st_ ?_);refine A9 [(6,13),(7,14),(8,12)] [] ?_;simp only[go_sem,go_sem_proc,e1,D25]
   all_goals exact eE_
 have E1:=E2p x x hWl;rw[zT rfl]at E1;have E2:=F3o s.hs (by have:=hok.hs;have:=hok.ins;omega)
 have hok':=hst.ok
 have hw1':s'.win≠0:=by have:=hok'.win;omega
 have D3:=A8t s' hok'.win (by have:=hok'.ins;omega)
 have hlt:decide (B80 s'<B80 s)=false:=by rw[zC];unfold B80;omega
 refine B2 [(7, .cA, .dE last.enc),(15, .cA, .ptr 1 0 0 1),(17, .cA, .ptr 5 0 0 1),(20, .cA,sI e)] (rsO s++rtO s') (B9 hm ?_) ?_
 ·refine st_ ?_;refine V4 C1 (st_ ?_);refine A0 E1 rfl (st_ ?_);refine V4 C2 (st_ ?_);refine A0 E2 rfl (st_ ?_);refine C5 5 6 7 8 D3 (by decide) (by simp[upd,go_sem,go_sem_proc]) (by simp[upd,go_sem,go_sem_proc]) (by simp[upd,go_sem,go_sem_proc]) (by simp[upd,go_sem,go_sem_proc]) (st_ ?_);refine V4 C3 ?_;simp only[go_sem,go_sem_proc,hlt];exact A9 [] [] se_
 have hWl':=hok'.last
 have D1:=D3o s' hw1' hok'.ws.1 (by have:=hok'.ws;omega) hWl';rw[show s'.ws.getD (s'.ws.length-1) dF_=A0a s' from rfl]at D1;have D2:=C96 s' hw1' (by have:=hok'.hs;have:=hok'.ins;omega)
 have D5:=B86 s' hw1'
 have F1:=E2p (A0a s') (A0a s') hWl';rw[zT rfl]at F1;have F2:=F3o s'.hs (by have:=hok'.hs;have:=hok'.ins;omega);refine B9 hm (st_ ?_);rcases hO1 with rfl |⟨old,rfl⟩ |⟨s1,f1,a1,e1,rfl⟩
 ·refine B5 [true,false] [(1,1),(2,2),(3,3),(4,4)] hO2 (by simp[rsO]) (by simp[rsO]) (by simp[rsO,J1]) g_ (st_ ?_);refine C5 1 2 3 4 D1 (by decide) (by simp[upd,go_sem,go_sem_proc]) (by simp[upd,go_sem,go_sem_proc]) (by simp[upd,go_sem,go_sem_proc]) (by simp[upd,go_sem,go_sem_proc]) (st_ ?_);refine C5 5 6 7 8 D1 (by decide) (by simp[upd,go_sem,go_sem_proc]) (by simp[upd,go_sem,go_sem_proc]) (by simp[upd,go_sem,go_sem_proc]) (by simp[upd,go_sem,go_sem_proc]) (st_ ?_);refine A0 F1 rfl (st_ ?_);refine C5 1 2 3 4 D2 (by decide) (by simp[upd,go_sem,go_sem_proc]) (by simp[upd,go_sem,go_sem_proc]) (by simp[upd,go_sem,go_sem_proc]) (by simp[upd,go_sem,go_sem_proc]) (st_ ?_);refine C5 5 6 7 8 D2 (by decide) (by simp[upd,go_sem,go_sem_proc]) (by simp[upd,go_sem,go_sem_proc]) (by simp[upd,go_sem,go_sem_proc]) (by simp[upd,go_sem,go_sem_proc]) (st_ ?_);refine A0 F2 rfl (st_ ?_);refine C5 1 2 3 4 D5 (by decide) (by simp[upd,go_sem,go_sem_proc]) (by simp[upd,go_sem,go_sem_proc]) (by simp[upd,go_sem,go_sem_proc]) (by simp[upd,go_sem,go_sem_proc]) (st_ ?_);refine C5 5 6 7 8 D5 (by decide) (by simp[upd,go_sem,go_sem_proc]) (by simp[upd,go_sem,go_sem_proc]) (by simp[upd,go_sem,go_sem_proc]) (by simp[upd,go_sem,go_sem_proc]) (st_ ?_);exact A0 hX rfl se_
 ·refine B5 [true,false] [(1,1),(2,2),(3,3),(4,4),(5,12)] hO2 (by simp[rsO]) (by simp[C08]) (by simp[C08,J1]) g_ (st_ ?_);refine C5 1 2 3 12 D1 (by decide) (by simp[upd,go_sem,go_sem_proc]) (by simp[upd,go_sem,go_sem_proc]) (by simp[upd,go_sem,go_sem_proc]) (by simp[upd,go_sem,go_sem_proc]) (st_ ?_);refine C5 5 6 7 8 D1 (by decide) (by simp[upd,go_sem,go_sem_proc]) (by simp[upd,go_sem,go_sem_proc]) (by simp[upd,go_sem,go_sem_proc]) (by simp[upd,go_sem,go_sem_proc]) (st_ ?_);refine A0 F1 rfl (st_ ?_);refine C5 1 2 3 12 D2 (by decide) (by simp[upd,go_sem,go_sem_proc]) (by simp[upd,go_sem,go_sem_proc]) (by simp[upd,go_sem,go_sem_proc]) (by simp[upd,go_sem,go_sem_proc]) (st_ ?_);refine C5 5 6 7 8 D2 (by decide) (by simp[upd,go_sem,go_sem_proc]) (by simp[upd,go_sem,go_sem_proc]) (by simp[upd,go_sem,go_sem_proc]) (by simp[upd,go_sem,go_sem_proc]) (st_ ?_);refine A0 F2 rfl (st_ ?_);refine C5 1 2 3 12 D5 (by decide) (by simp[upd,go_sem,go_sem_proc]) (by simp[upd,go_sem,go_sem_proc]) (by simp[upd,go_sem,go_sem_proc]) (by simp[upd,go_sem,go_sem_proc]) (st_ ?_);refine C5 5 6 7 8 D5 (by decide) (by simp[upd,go_sem,go_sem_proc]) (by simp[upd,go_sem,go_sem_proc]) (by simp[upd,go_sem,go_sem_proc]) (by simp[upd,go_sem,go_sem_proc]) (st_ ?_);exact A0 hX rfl se_
 ·refine B5 [true,false] [(1,1),(2,2),(3,3),(4,4),(6,12),(8,13),(9,14)] hO2 (by simp[rsO]) (by simp[B8w]) (by simp[B8w,J1]) g_ (st_ ?_);refine C5 1 13 14 12 D1 (by decide) (by simp[upd,go_sem,go_sem_proc,e1,D25]) (by simp[upd,go_sem,go_sem_proc,e1,D25]) (by simp[upd,go_sem,go_sem_proc,e1,D25]) (by simp[upd,go_sem,go_sem_proc,e1,D25]) (st_ ?_);refine C5 5 6 7 8 D1 (by decide) (by simp[upd,go_sem,go_sem_proc,e1,D25]) (by simp[upd,go_sem,go_sem_proc,e1,D25]) (by simp[upd,go_sem,go_sem_proc,e1,D25]) (by simp[upd,go_sem,go_sem_proc,e1,D25]) (st_ ?_);refine A0 F1 rfl (st_ ?_);refine C5 1 13 14 12 D2 (by decide) (by simp[upd,go_sem,go_sem_proc,e1,D25]) (by simp[upd,go_sem,go_sem_proc,e1,D25]) (by simp[upd,go_sem,go_sem_proc,e1,D25]) (by simp[upd,go_sem,go_sem_proc,e1,D25]) (st_ ?_);refine C5 5 6 7 8 D2 (by decide) (by simp[upd,go_sem,go_sem_proc,e1,D25]) (by simp[upd,go_sem,go_sem_proc,e1,D25]) (by simp[upd,go_sem,go_sem_proc,e1,D25]) (by simp[upd,go_sem,go_sem_proc,e1,D25]) (st_ ?_);refine A0 F2 rfl (st_ ?_);refine C5 1 13 14 12 D5 (by decide) (by simp[upd,go_sem,go_sem_proc,e1,D25]) (by simp[upd,go_sem,go_sem_proc,e1,D25]) (by simp[upd,go_sem,go_sem_proc,e1,D25]) (by simp[upd,go_sem,go_sem_proc,e1,D25]) (st_ ?_);refine C5 5 6 7 8 D5 (by decide) (by simp[upd,go_sem,go_sem_proc,e1,D25]) (by simp[upd,go_sem,go_sem_proc,e1,D25]) (by simp[upd,go_sem,go_sem_proc,e1,D25]) (by simp[upd,go_sem,go_sem_proc,e1,D25]) (st_ ?_);exact A0 hX rfl se_
end Go.Abs
end
