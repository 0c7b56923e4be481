/- A part of the proof: what a function does, over abstract values and objects, and its ties to the model. -/
import Derived.Calls
import Derived.Laws.Sem
import Derived.Laws.World
import Derived.Laws.Cells
import Derived.Laws.Rows
import Derived.Laws.Tables
import Derived.Laws.Append
import Derived.Laws.AppendOwn
import Derived.Laws.MakeOwn
import Derived.Laws.CopyRow
import Derived.Laws.StructEq
import Derived.Laws.Entries
import Derived.ChangeKeysEq
set_option linter.unusedSimpArgs false
set_option linter.unusedVariables false
set_option linter.unnecessarySimpa false
set_option maxRecDepth 100000
set_option maxHeartbeats 2000000
section
namespace Go.Abs
inductive AV where
 |sc (v:Value)
 |dsl (z n:Nat) (g:Nat→List AV)
 |dslx (z n:Nat) (g:Nat→List AV)
 |sl (id off len tot:Nat)
 |ptr (id i o tot:Nat)
 |mp (id:Nat)
 |fptr (cs:List AV)
 |agg (cs:List AV)
 |tup (cs:List AV)
 |fn (f:Fn) (first cap:List AV)
 |own (z n:Nat) (g:Nat→List AV)
 |hole
instance:Inhabited AV:=⟨.sc (.bool false)⟩
structure Sq where
 n:Nat
 g:Nat→List AV
inductive A8 where
 |box (cs:List AV)
 |arr (z:Nat) (s:Sq)
 |frz (z:Nat) (s:Sq)
 |frzb (cs:List AV)
 |map (k:IntKind) (es:List (Int×AV))
 |mapS (n:Nat) (es:List (List Int×AV))
 |arrP (z:Nat) (s:Sq)
 |gone
def AV.cells:AV→List AV
 | .agg cs=>cs
 |v=> [v]
mutual
def AV.pure:AV→Bool
 | .sc _=>true
 | .dsl .. =>true
 | .dslx .. =>true
 | .fptr _=>true
 | .fn _ a b=>Q4 a&&Q4 b
 | .sl .. =>false
 | .ptr .. =>false
 | .mp _=>false
 | .agg _=>false
 | .tup _=>false
 | .own .. =>false
 | .hole=>false
def Q4:List AV→Bool
 | []=>true
 |c::cs=>c.pure&&Q4 cs
end
theorem B20: ∀ {cs:List AV} {j:Nat} {av:AV},Q4 cs=true→cs[j]? =some av→av.pure=true
 | [],j,av,_,h=>by simp at h
 |c::cs,0,av,hn,h=>by simp only[List.getElem?_cons_zero,Option.some.injEq]at h;subst h;simp only[Q4,Bool.and_eq_true]at hn;exact hn.1
 |c::cs,j+1,av,hn,h=>by simp only[List.getElem?_cons_succ]at h;simp only[Q4,Bool.and_eq_true]at hn;exact B20 hn.2 h
theorem B5w: ∀ {cs:List AV},(∀(j:Nat) (av:AV),cs[j]? =some av→av.pure=true)→Q4 cs=true
 | [],_=>rfl
 |c::cs,h=>by simp only[Q4,Bool.and_eq_true];exact⟨h 0 c (by simp),B5w fun j av hj=>h (j+1) av (by simpa using hj)⟩
def AV.one:AV→Bool
 | .agg _ | .tup _=>false
 |_=>true
def AV.flat:AV→Bool
 | .agg cs=>cs.all AV.pure
 |v=>v.pure
def A8.owned:A8→Bool
 | .frz .. =>false
 | .frzb _=>false
 |_=>true
inductive F0v where
 |cells |map |priv (p:Nat→Prop)
structure H4 where
 blk:Option Nat
 esz:Nat
 len:Nat
 cap:Nat
 kind:F0v
def H4.pv(i:H4)(b:Nat):Prop:=match i.kind with
 | .priv p=>p b
 |_=>False
def H4.has(i:H4)(b:Nat):Prop:=i.blk=some b∨i.pv b
theorem H4.has_plain {i:H4}{b:Nat}(hk:i.kind= .cells∨i.kind= .map)(h:i.has b):i.blk=some b:=by
 rcases h with h |h
 ·exact h
 ·unfold H4.pv at h;rcases hk with hk |hk <;> (rw[hk]at h;exact h.elim)
abbrev Place:=Nat→Option H4
def N9(ob:Place)(b:Nat):Prop:= ∃id i,ob id=some i∧i.has b
def SlV(i:H4)(off len:Nat)(v:Value):Prop:=
 off+len≤i.len∧(i.blk=none→v= .slice none 0 0∨ ∃a,v= .slice (some a) 0 0)∧
  ∀b,i.blk=some b→ ∃o c,v= .slice (some ⟨b,o,none⟩) len c∧len≤c∧(0<len→o=off*i.esz)∧(off=0→o=0∧c=i.cap)
inductive Rel (G:Nat→Prop) (w:World) (ob:Place):AV→Value→Prop
 |sc {v:Value} (h:v.oneCell'=true):Rel G w ob (.sc v) v
 |hole {v:Value} (h:v.oneCell'=true):Rel G w ob .hole v
 |dslNil {z:Nat} {g:Nat→List AV}:Rel G w ob (.dsl z 0 g) (.slice none 0 0)
 |dslxNil {z:Nat} {g:Nat→List AV}:Rel G w ob (.dslx z 0 g) (.slice none 0 0)
 |dslE {z:Nat} {g:Nat→List AV} (a:Addr) (cap:Nat):Rel G w ob (.dsl z 0 g) (.slice (some a) 0 cap)
 |dslxE {z:Nat} {g:Nat→List AV} (a:Addr):Rel G w ob (.dslx z 0 g) (.slice (some a) 0 0)
 |dsl {esz n:Nat} {g:Nat→List AV} (b off cap:Nat) (c:Nat→Nat→Value) (hG:G b) (hcap:n≤cap)
   (hlen: ∀(i:Nat),i<n→(g i).length=esz)
   (hp: ∀(i j:Nat) (av:AV),i<n→(g i)[j]? =some av→av.pure=true)
   (hc: ∀i j,i<n→j<esz→w.cell? ⟨b,off+(i*esz+j),none⟩=some (c i j))
   (hr: ∀(i j:Nat) (av:AV),i<n→(g i)[j]? =some av→Rel G w ob av (c i j)):
   Rel G w ob (.dsl esz n g) (.slice (some ⟨b,off,none⟩) n cap)
 |dslx {esz n:Nat} {g:Nat→List AV} (b off:Nat) (c:Nat→Nat→Value) (hG:G b)
   (hlen: ∀(i:Nat),i<n→(g i).length=esz)
   (hp: ∀(i j:Nat) (av:AV),i<n→(g i)[j]? =some av→av.pure=true)
   (hc: ∀i j,i<n→j<esz→w.cell? ⟨b,off+(i*esz+j),none⟩=some (c i j))
   (hr: ∀(i j:Nat) (av:AV),i<n→(g i)[j]? =some av→Rel G w ob av (c i j)):
   Rel G w ob (.dslx esz n g) (.slice (some ⟨b,off,none⟩) n n)
 |sl {id off len tot:Nat} {v:Value} (i:H4) (h:ob id=some i) (hle:tot≤i.len) (hs: ∃a c,v= .slice a len c)
   (hv:i.len=tot→SlV i off len v):Rel G w ob (.sl id off len tot) v
 |ptr {id k o tot:Nat} (a:Addr) (i:H4) (h:ob id=some i) (hle:tot≤i.len)
   (hv:i.len=tot→ ∃b,i.blk=some b∧a=⟨b,k*i.esz+o,none⟩∧k<i.len):Rel G w ob (.ptr id k o tot) (.pointer (some a))
 |mp {id:Nat} (b:Nat) (i:H4) (h:ob id=some i) (hb:i.blk=some b) (hm:i.kind= .map):Rel G w ob (.mp id) (.map (some b))
 |fptr {cs:List AV} (b off:Nat) (c:Nat→Value) (hG:G b)
   (hp: ∀(j:Nat) (av:AV),cs[j]? =some av→av.pure=true)
   (hc: ∀j,j<cs.length→w.cell? ⟨b,off+j,none⟩=some (c j))
   (hr: ∀(j:Nat) (av:AV),cs[j]? =some av→Rel G w ob av (c j)):Rel G w ob (.fptr cs) (.pointer (some ⟨b,off,none⟩))
 |agg {cs:List AV} (vs:Array Value) (hn:vs.size=cs.length) (ho: ∀(j:Nat) (av:AV),cs[j]? =some av→av.one=true)
   (hr: ∀(j:Nat) (av:AV),cs[j]? =some av→Rel G w ob av (vs.getD j undef)):Rel G w ob (.agg cs) (.agg vs)
 |tup {cs:List AV} (vs:Array Value) (hn:vs.size=cs.length)
   (hr: ∀(j:Nat) (av:AV),cs[j]? =some av→Rel G w ob av (vs.getD j undef)):Rel G w ob (.tup cs) (.tuple vs)
 |fn {f:Fn} {xs ys:List AV} (vs us:Array Value) (hn:vs.size=xs.length) (hm:us.size=ys.length)
   (hr: ∀(j:Nat) (av:AV),xs[j]? =some av→Rel G w ob av (vs.getD j undef))
   (hq: ∀(j:Nat) (av:AV),ys[j]? =some av→Rel G w ob av (us.getD j undef)):Rel G w ob (.fn f xs ys) (.func f vs us)
def C3(ob ob':Place):Prop:= ∀id i,ob id=some i→ ∃i',ob' id=some i'∧(i'=i∨(∃p q,i.kind= .priv p∧i'= {i with kind:=q})∨(i.len<i'.len∧i.kind≠ .map))
theorem C3.refl(ob:Place):C3 ob ob:=fun _ i h=>⟨i,h, .inl rfl⟩
theorem C3.trans {o1 o2 o3:Place}(h:C3 o1 o2)(h':C3 o2 o3):C3 o1 o3:=by
 intro id i hi;obtain⟨i',hi',h1⟩:=h id i hi;obtain⟨i'',hi'',h2⟩:=h' id i' hi';refine⟨i'',hi'',?_⟩;rcases h1 with rfl |⟨p,q,h1,rfl⟩ |⟨h1,m1⟩
 ·exact h2
 ·rcases h2 with rfl |⟨p',q',h2,rfl⟩ |⟨h2,m2⟩
  ·exact .inr (.inl ⟨p,q,h1,rfl⟩)
  ·exact .inr (.inl ⟨p,q',h1,rfl⟩)
  ·exact .inr (.inr ⟨h2,by rw[h1];simp⟩)
 ·rcases h2 with rfl |⟨p',q',h2,rfl⟩ |⟨h2,m2⟩
  ·exact .inr (.inr ⟨h1,m1⟩)
  ·exact .inr (.inr ⟨h1,m1⟩)
  ·exact .inr (.inr ⟨Nat.lt_trans h1 h2,m1⟩)
theorem B6s {w w':World}{b off:Nat}(h:w'.heap[b]? =w.heap[b]?):w'.cell? ⟨b,off,none⟩=w.cell? ⟨b,off,none⟩:=by simp only[World.cell?,h]
theorem Rel.ext {G G':Nat→Prop}{w w':World}{ob ob':Place}{av:AV}{v:Value}(h:Rel G w ob av v)
  (hG: ∀b,G b→G' b)(hw: ∀b,G b→w'.heap[b]? =w.heap[b]?)(hob:C3 ob ob'):Rel G' w' ob' av v:=by
 induction h with
 |sc h=>exact .sc h
 |hole h=>exact .hole h
 |dslNil=>exact .dslNil
 |dslxNil=>exact .dslxNil
 |dslE a cap=>exact .dslE a cap
 |dslxE a=>exact .dslxE a
 |dsl b off cap c hg hcap hlen hp hc hr ih=>exact .dsl b off cap c (hG b hg) hcap hlen hp (fun i j hi hj=>by rw[B6s (hw b hg)];exact hc i j hi hj) ih
 |dslx b off c hg hlen hp hc hr ih=>exact .dslx b off c (hG b hg) hlen hp (fun i j hi hj=>by rw[B6s (hw b hg)];exact hc i j hi hj) ih
 |sl i h hle hs hv=>
  obtain⟨i',h',hi⟩:=hob _ i h;rcases hi with rfl |⟨p,q,hk,rfl⟩ |⟨hlt,_⟩
  ·exact .sl i' h' hle hs hv
  ·exact .sl _ h' hle hs hv
  ·exact .sl i' h' (by omega) hs (fun e=>by omega)
 |ptr a i h hle hv=>
  obtain⟨i',h',hi⟩:=hob _ i h;rcases hi with rfl |⟨p,q,hk,rfl⟩ |⟨hlt,_⟩
  ·exact .ptr a i' h' hle hv
  ·exact .ptr a _ h' hle hv
  ·exact .ptr a i' h' (by omega) (fun e=>by omega)
 |mp b i h hb hm=>
  obtain⟨i',h',hi⟩:=hob _ i h;rcases hi with rfl |⟨p,q,hk,rfl⟩ |⟨_,hf⟩
  ·exact .mp b i' h' hb hm
  ·rw[hm]at hk;cases hk
  ·exact absurd hm hf
 |fptr b off c hg hp hc hr ih=>exact .fptr b off c (hG b hg) hp (fun j hj=>by rw[B6s (hw b hg)];exact hc j hj) ih
 |agg vs hn ho hr ih=>exact .agg vs hn ho ih
 |tup vs hn hr ih=>exact .tup vs hn ih
 |fn vs us hn hm hr hq ih1 ih2=>exact .fn vs us hn hm ih1 ih2
theorem Rel.ob_free {G:Nat→Prop}{w:World}{ob ob':Place}{av:AV}{v:Value}(h:Rel G w ob av v)(hp:av.pure=true):Rel G w ob' av v:=by
 induction h with
 |sc h=>exact .sc h
 |hole h=>exact .hole h
 |dslNil=>exact .dslNil
 |dslxNil=>exact .dslxNil
 |dslE a cap=>exact .dslE a cap
 |dslxE a=>exact .dslxE a
 |dsl b off cap c hg hcap hlen hpp hc hr ih=>exact .dsl b off cap c hg hcap hlen hpp hc (fun i j av hi h=>ih i j av hi h (hpp i j av hi h))
 |dslx b off c hg hlen hpp hc hr ih=>exact .dslx b off c hg hlen hpp hc (fun i j av hi h=>ih i j av hi h (hpp i j av hi h))
 |fptr b off c hg hpp hc hr ih=>exact .fptr b off c hg hpp hc (fun j av h=>ih j av h (hpp j av h))
 |fn vs us hn hm hr hq ih1 ih2=>simp only[AV.pure,Bool.and_eq_true]at hp;exact .fn vs us hn hm (fun j av h=>ih1 j av h (B20 hp.1 h)) (fun j av h=>ih2 j av h (B20 hp.2 h))
 |_=>simp[AV.pure]at hp
theorem Rel.one_cell {G:Nat→Prop}{w:World}{ob:Place}{av:AV}{v:Value}(h:Rel G w ob av v)(ho:av.one=true):v.oneCell'=true:=by
 cases h with
 |sc h=>exact h
 |hole h=>exact h
 |sl i h hle hs hv=>obtain⟨a,c,rfl⟩:=hs;rfl
 |agg=>simp[AV.one]at ho
 |tup=>simp[AV.one]at ho
 |_=>rfl
theorem Rel.flat_free {G:Nat→Prop}{w:World}{ob ob':Place}{av:AV}{v:Value}(h:Rel G w ob av v)(hp:av.flat=true):Rel G w ob' av v:=by
 by_cases hq:av.pure=true
 ·exact h.ob_free hq
 ·cases h with
  |agg vs hn ho hr=>simp only[AV.flat,List.all_eq_true]at hp;exact .agg vs hn ho (fun j av hj=>(hr j av hj).ob_free (hp av (List.mem_of_getElem? hj)))
  |_=>exact absurd hp hq
def A5x(G:Nat→Prop)(w:World)(ob:Place)(arr:Array Value)(esz:Nat)(s:Sq):Prop:=
 (∀(i:Nat),i<s.n→(s.g i).length=esz)∧
 ∀(i j:Nat) (av:AV),i<s.n→(s.g i)[j]? =some av→av.pure=true∧ ∃v,arr[i*esz+j]? =some v∧Rel G w ob av v
def A51(G:Nat→Prop)(w:World)(ob:Place)(β:Option Nat):AV→Value→Prop
 | .own z n g,v=>(β=none∧n=0∧(v= .slice none 0 0∨ ∃a,v= .slice (some a) 0 0))∨
    ∃(b cap:Nat) (arr:Array Value) (T:TypeId),β=some b∧n≤cap∧v= .slice (some ⟨b,0,none⟩) n cap∧w.heap[b]? =some (.cells arr T (0,0))∧arr.size=cap*z∧A5x G w ob arr z ⟨n,g⟩
 | .hole,v=>v.oneCell'=true∧β=none
 |av,v=>av.pure=true∧β=none∧Rel G w ob av v
def A3u(G:Nat→Prop)(w:World)(ob:Place)(arr:Array Value)(esz:Nat)(s:Sq)(β:Nat→Nat→Option Nat):Prop:=
 (∀(i:Nat),i<s.n→(s.g i).length=esz)∧
 ∀(i j:Nat) (av:AV),i<s.n→(s.g i)[j]? =some av→ ∃v,arr[i*esz+j]? =some v∧A51 G w ob (β i j) av v
structure B5j (b:Nat) (n z:Nat) (p:Nat→Prop) (β:Nat→Nat→Option Nat):Prop where
 sub: ∀i j x,i<n→j<z→β i j=some x→p x
 all: ∀x,p x→ ∃i j,i<n∧j<z∧β i j=some x
 inj: ∀i j i' j' x,i<n→j<z→i'<n→j'<z→β i j=some x→β i' j'=some x→i=i'∧j=j'
 ne: ¬p b
def A0y(zs:List Int):Value:= .agg (zs.map (Value.int .i64)).toArray
def K0(G:Nat→Prop)(w:World)(ob:Place)(i:H4):A8→Prop
 | .box cs=>i.kind= .cells∧i.len=1∧i.esz=cs.length∧ ∃(b:Nat) (arr:Array Value) (T:TypeId),i.blk=some b∧w.heap[b]? =some (.cells arr T (0,0))∧arr.size=cs.length∧
    ∀(j:Nat) (av:AV),cs[j]? =some av→av.one=true∧ ∃v,arr[j]? =some v∧Rel G w ob av v
 | .arr z s=>i.kind= .cells∧i.esz=z∧i.len=s.n∧s.n≤i.cap∧((i.blk=none∧s.n=0∧i.cap=0)∨ ∃(b:Nat) (arr:Array Value) (T:TypeId),i.blk=some b∧w.heap[b]? =some (.cells arr T (0,0))∧
    arr.size=i.cap*i.esz∧A5x G w ob arr i.esz s)
 | .frz z s=>i.kind= .cells∧i.esz=z∧i.len=s.n∧s.n≤i.cap∧((i.blk=none∧s.n=0∧i.cap=0)∨ ∃(b:Nat) (arr:Array Value) (T:TypeId) (fz:Nat×Nat),i.blk=some b∧G b∧w.heap[b]? =some (.cells arr T fz)∧
    A5x G w ob arr i.esz s)
 | .frzb cs=>i.kind= .cells∧i.len=1∧i.esz=cs.length∧ ∃(b:Nat) (arr:Array Value) (T:TypeId) (fz:Nat×Nat),i.blk=some b∧G b∧w.heap[b]? =some (.cells arr T fz)∧arr.size=cs.length∧
    ∀(j:Nat) (av:AV),cs[j]? =some av→av.pure=true∧ ∃v,arr[j]? =some v∧Rel G w ob av v
 | .gone=>i.kind= .cells∧i.blk=none
 | .arrP z s=>i.esz=z∧i.len=s.n∧s.n≤i.cap∧ ∃p,i.kind= .priv p∧((i.blk=none∧s.n=0∧i.cap=0∧ ∀x,¬p x)∨ ∃(b:Nat) (arr:Array Value) (T:TypeId) (β:Nat→Nat→Option Nat),i.blk=some b∧w.heap[b]? =some (.cells arr T (0,0))∧
    arr.size=i.cap*i.esz∧A3u G w ob arr i.esz s β∧B5j b s.n z p β)
 | .map k es=>i.kind= .map∧ ∃(b:Nat) (ents:Array MapEntry) (clock:Nat),i.blk=some b∧w.heap[b]? =some (.map ents clock)∧ents.size=es.length∧
    ∀(j:Nat) (z:Int) (av:AV),es[j]? =some (z,av)→av.flat=true∧ ∃(e:MapEntry),ents[j]? =some e∧e.key= .int k z∧Rel G w ob av e.val
 | .mapS n es=>i.kind= .map∧ ∃(b:Nat) (ents:Array MapEntry) (clock:Nat),i.blk=some b∧w.heap[b]? =some (.map ents clock)∧ents.size=es.length∧
    ∀(j:Nat) (z:List Int) (av:AV),es[j]? =some (z,av)→(av.flat=true∧z.length=n)∧ ∃(e:MapEntry),ents[j]? =some e∧e.key=A0y z∧Rel G w ob av e.val
structure C8 (G:Nat→Prop) (w:World) (ob:Place) (m:Nat→Option A8):Prop where
 dom: ∀id,m id=none↔ob id=none
 inj: ∀id id' i i' b,ob id=some i→ob id'=some i'→i.has b→i'.has b→id=id'
 lt: ∀b,G b→b<w.heap.size
 own: ∀id o i,m id=some o→ob id=some i→K0 G w ob i o
 sep: ∀id o i b,m id=some o→o.owned=true→ob id=some i→i.has b→ ¬G b
structure Fr (G:Nat→Prop) (w:World) (ob:Place) (G':Nat→Prop) (w':World) (ob':Place):Prop where
 size:w.heap.size≤w'.heap.size
 same: ∀b,b<w.heap.size→(G b∨ ¬N9 ob b)→w'.heap[b]? =w.heap[b]?
 blk: ∀b,N9 ob' b→N9 ob b∨w.heap.size≤b
 sub: ∀b,G b→G' b
 new: ∀b,G' b→G b∨w.heap.size≤b∨N9 ob b
 os:w'.os=w.os
 tape:w'.tape=w.tape
 output:w'.output=w.output
 drawn:w.drawn≤w'.drawn
theorem Fr.refl(G:Nat→Prop)(w:World)(ob:Place):Fr G w ob G w ob:=⟨Nat.le_refl _,fun _ _ _=>rfl,fun _ h=> .inl h,fun _ h=>h,fun _ h=> .inl h,rfl,rfl,rfl,Nat.le_refl _⟩
theorem Fr.trans {G G1 G2:Nat→Prop}{w w1 w2:World}{ob ob1 ob2:Place}(h:Fr G w ob G1 w1 ob1)(h':Fr G1 w1 ob1 G2 w2 ob2):Fr G w ob G2 w2 ob2 where
 size:=Nat.le_trans h.size h'.size
 same:=fun b hb hc=>by
  rw[h'.same b (Nat.lt_of_lt_of_le hb h.size) ?_,h.same b hb hc];rcases hc with hc |hc
  ·exact .inl (h.sub b hc)
  ·refine .inr fun hk=> ?_;rcases h.blk b hk with h1 |h1
   ·exact hc h1
   ·omega
 blk:=fun b hb=>by
  rcases h'.blk b hb with h1 |h1
  ·exact h.blk b h1
  ·exact .inr (Nat.le_trans h.size h1)
 sub:=fun b hb=>h'.sub b (h.sub b hb)
 new:=fun b hb=>by
  rcases h'.new b hb with h1 |h1 |h1
  ·exact h.new b h1
  ·exact .inr (.inl (Nat.le_trans h.size h1))
  ·rcases h.blk b h1 with h2 |h2
   ·exact .inr (.inr h2)
   ·exact .inr (.inl h2)
 os:=h'.os.trans h.os
 tape:=h'.tape.trans h.tape
 output:=h'.output.trans h.output
 drawn:=Nat.le_trans h.drawn h'.drawn
theorem A5x.ext {G G':Nat→Prop}{w w':World}{ob ob':Place}{arr:Array Value}{esz:Nat}{s:Sq}(h:A5x G w ob arr esz s)
  (hG: ∀b,G b→G' b)(hw: ∀b,G b→w'.heap[b]? =w.heap[b]?)(hob:C3 ob ob'):A5x G' w' ob' arr esz s:=
 ⟨h.1,fun i j av hi hj=>let⟨hp,v,hv,hr⟩:=h.2 i j av hi hj;⟨hp,v,hv,hr.ext hG hw hob⟩⟩
theorem A51.ext {G G':Nat→Prop}{w w':World}{ob ob':Place}{β:Option Nat}{av:AV}{v:Value}(h:A51 G w ob β av v)
  (hG: ∀b,G b→G' b)(hw: ∀b,G b→w'.heap[b]? =w.heap[b]?)(hob:C3 ob ob')(hb: ∀b,β=some b→w'.heap[b]? =w.heap[b]?):A51 G' w' ob' β av v:=by
 cases av with
 |own z n g=>
  rcases h with h |⟨b,cap,arr,T,h1,h2,h3,h4,h5,h6⟩
  ·exact .inl h
  ·exact .inr ⟨b,cap,arr,T,h1,h2,h3,by rw[hb b h1];exact h4,h5,h6.ext hG hw hob⟩
 |hole=>exact h
 |_=>exact⟨h.1,h.2.1,h.2.2.ext hG hw hob⟩
theorem A3u.ext {G G':Nat→Prop}{w w':World}{ob ob':Place}{arr:Array Value}{esz:Nat}{s:Sq}{β:Nat→Nat→Option Nat}(h:A3u G w ob arr esz s β)
  (hG: ∀b,G b→G' b)(hw: ∀b,G b→w'.heap[b]? =w.heap[b]?)(hob:C3 ob ob')(hb: ∀i j b,i<s.n→j<esz→β i j=some b→w'.heap[b]? =w.heap[b]?):A3u G' w' ob' arr esz s β:=
 ⟨h.1,fun i j av hi hj=>let⟨v,hv,hr⟩:=h.2 i j av hi hj;⟨v,hv,hr.ext hG hw hob fun b hβ=>hb i j b hi (by
   have:=h.1 i hi;rcases Nat.lt_or_ge j (s.g i).length with hl |hl
   ·omega
   ·rw[List.getElem?_eq_none hl]at hj;cases hj) hβ⟩⟩
theorem K0.ext {G G':Nat→Prop}{w w':World}{ob ob':Place}{i:H4}{o:A8}(h:K0 G w ob i o)
  (hG: ∀b,G b→G' b)(hw: ∀b,G b→w'.heap[b]? =w.heap[b]?)(hob:C3 ob ob')(hb: ∀b,i.has b→w'.heap[b]? =w.heap[b]?):K0 G' w' ob' i o:=by
 cases o with
 |box cs=>obtain⟨h0,h1,h2,b,arr,T,h3,h4,h5,h6⟩:=h;exact⟨h0,h1,h2,b,arr,T,h3,by rw[hb b (.inl h3)];exact h4,h5,fun j av hj=>let⟨ho,v,hv,hr⟩:=h6 j av hj;⟨ho,v,hv,hr.ext hG hw hob⟩⟩
 |arr z s=>
  obtain⟨h0,h00,h1,h2,h3⟩:=h;refine⟨h0,h00,h1,h2,?_⟩;rcases h3 with h3 |⟨b,arr,T,h3,h4,h5,h6⟩
  ·exact .inl h3
  ·exact .inr ⟨b,arr,T,h3,by rw[hb b (.inl h3)];exact h4,h5,h6.ext hG hw hob⟩
 |frz z s=>
  obtain⟨h0,h00,h1,h2,h3⟩:=h;refine⟨h0,h00,h1,h2,?_⟩;rcases h3 with h3 |⟨b,arr,T,fz,h3,h4,h5,h6⟩
  ·exact .inl h3
  ·exact .inr ⟨b,arr,T,fz,h3,hG b h4,by rw[hb b (.inl h3)];exact h5,h6.ext hG hw hob⟩
 |frzb cs=>obtain⟨h0,h1,h2,b,arr,T,fz,h3,h4,h5,h6,h7⟩:=h;exact⟨h0,h1,h2,b,arr,T,fz,h3,hG b h4,by rw[hb b (.inl h3)];exact h5,h6,fun j av hj=>let⟨ho,v,hv,hr⟩:=h7 j av hj;⟨ho,v,hv,hr.ext hG hw hob⟩⟩
 |map k es=>obtain⟨h0,b,ents,clock,h3,h4,h5,h6⟩:=h;exact⟨h0,b,ents,clock,h3,by rw[hb b (.inl h3)];exact h4,h5,fun j z av hj=>let⟨hf,e,he,hk,hr⟩:=h6 j z av hj;⟨hf,e,he,hk,hr.ext hG hw hob⟩⟩
 |mapS k es=>obtain⟨h0,b,ents,clock,h3,h4,h5,h6⟩:=h;exact⟨h0,b,ents,clock,h3,by rw[hb b (.inl h3)];exact h4,h5,fun j z av hj=>let⟨hf,e,he,hk,hr⟩:=h6 j z av hj;⟨hf,e,he,hk,hr.ext hG hw hob⟩⟩
 |gone=>exact h
 |arrP z s=>
  obtain⟨h00,h1,h2,p,hk,h3⟩:=h;refine⟨h00,h1,h2,p,hk,?_⟩;rcases h3 with h3 |⟨b,arr,T,β,h3,h4,h5,h6,h7⟩
  ·exact .inl h3
  ·refine .inr ⟨b,arr,T,β,h3,by rw[hb b (.inl h3)];exact h4,h5,h6.ext hG hw hob fun k j x hk' hj hx=>hb x (.inr ?_),h7⟩;unfold H4.pv;rw[hk];exact h7.sub k j x hk' (by omega) hx
theorem K0.has_lt {G:Nat→Prop}{w:World}{ob:Place}{i:H4}{o:A8}(h:K0 G w ob i o){b:Nat}(hb:i.has b):b<w.heap.size:=by
 have key: ∀x,w.heap[b]? =some x→b<w.heap.size:=fun x hx=>by
  rcases Nat.lt_or_ge b w.heap.size with h |h
  ·exact h
  ·rw[Array.getElem?_eq_none h]at hx;cases hx
 cases o with
 |gone=>have:=H4.has_plain (.inl h.1) hb;rw[h.2]at this;cases this
 |arrP z s=>
  obtain⟨h00,_,_,p,hk,h3⟩:=h;rcases h3 with⟨h3,_,_,h4⟩ |⟨b',arr,T,β,h3,h4,_,h6,h7⟩
  ·rcases hb with hb |hb
   ·rw[hb]at h3;cases h3
   ·unfold H4.pv at hb;rw[hk]at hb;exact absurd hb (h4 b)
  ·rcases hb with hb |hb
   ·rw[hb]at h3;injection h3 with h3;subst h3;exact key _ h4
   ·unfold H4.pv at hb;rw[hk]at hb;obtain⟨k,j,hk',hj,hβ⟩:=h7.all b hb;have hlen:=h6.1 k hk';obtain⟨av,hav⟩: ∃av,(s.g k)[j]? =some av:=⟨_,List.getElem?_eq_getElem (by omega)⟩;obtain⟨v,_,hc⟩:=h6.2 k j av hk' hav;rw[hβ]at hc;cases av with
    |own z' n' g'=>
     rcases hc with⟨hc,_⟩ |⟨b2,cap,arr2,T2,hc,_,_,h8,_⟩
     ·cases hc
     ·injection hc with hc;subst hc;exact key _ h8
    |hole=>cases hc.2
    |_=>cases hc.2.1
 |box cs=>have hb:=H4.has_plain (.inl h.1) hb;obtain⟨_,_,_,b',arr,T,h3,h4,_⟩:=h;rw[hb]at h3;injection h3 with h3;subst h3;exact key _ h4
 |arr z s=>
  have hb:=H4.has_plain (.inl h.1) hb;obtain⟨_,_,_,_,h3 |⟨b',arr,T,h3,h4,_⟩⟩:=h
  ·rw[hb]at h3;cases h3.1
  ·rw[hb]at h3;injection h3 with h3;subst h3;exact key _ h4
 |frz z s=>
  have hb:=H4.has_plain (.inl h.1) hb;obtain⟨_,_,_,_,h3 |⟨b',arr,T,fz,h3,_,h4,_⟩⟩:=h
  ·rw[hb]at h3;cases h3.1
  ·rw[hb]at h3;injection h3 with h3;subst h3;exact key _ h4
 |frzb cs=>have hb:=H4.has_plain (.inl h.1) hb;obtain⟨_,_,_,b',arr,T,fz,h3,_,h4,_⟩:=h;rw[hb]at h3;injection h3 with h3;subst h3;exact key _ h4
 |map k es=>have hb:=H4.has_plain (.inr h.1) hb;obtain⟨_,b',ents,clock,h3,h4,_⟩:=h;rw[hb]at h3;injection h3 with h3;subst h3;exact key _ h4
 |mapS k es=>have hb:=H4.has_plain (.inr h.1) hb;obtain⟨_,b',ents,clock,h3,h4,_⟩:=h;rw[hb]at h3;injection h3 with h3;subst h3;exact key _ h4
theorem K0.blk_lt {G:Nat→Prop}{w:World}{ob:Place}{i:H4}{o:A8}(h:K0 G w ob i o){b:Nat}(hb:i.blk=some b):b<w.heap.size:=h.has_lt (.inl hb)
theorem K0.arr_none {G:Nat→Prop}{w:World}{ob:Place}{i:H4}{z:Nat}{s:Sq}(h:K0 G w ob i (.arr z s))(hb:i.blk=none):s.n=0:=by
 rcases h.2.2.2.2 with h |⟨b,_,_,h,_⟩
 ·exact h.2.1
 ·rw[hb]at h;cases h
theorem K0.frz_none {G:Nat→Prop}{w:World}{ob:Place}{i:H4}{z:Nat}{s:Sq}(h:K0 G w ob i (.frz z s))(hb:i.blk=none):s.n=0:=by
 rcases h.2.2.2.2 with h |⟨b,_,_,_,h,_⟩
 ·exact h.2.1
 ·rw[hb]at h;cases h
def upd {β:Type}(f:Nat→Option β)(k:Nat)(v:Option β):Nat→Option β:=fun x=>if x=k then v else f x
@[simp] theorem W3 {β:Type}(f:Nat→Option β)(k:Nat)(v:Option β):upd f k v k=v:=by simp[upd]
theorem E8 {β:Type}{f:Nat→Option β}{k x:Nat}{v:Option β}(h:x≠k):upd f k v x=f x:=by simp[upd,h]
theorem C8.updateP {G:Nat→Prop}{w w':World}{ob:Place}{m:Nat→Option A8}(h:C8 G w ob m)(id:Nat)(o:A8)(i:H4)
  (hsz:w.heap.size≤w'.heap.size)
  (hh: ∀b,b<w.heap.size→(∀j,ob id=some j→ ¬j.has b)→w'.heap[b]? =w.heap[b]?)
  (hi: ∀j,ob id=some j→i=j∨(∃p q,j.kind= .priv p∧i= {j with kind:=q})∨(j.len<i.len∧j.kind≠ .map))
  (hb: ∀b,i.has b→(∃j,ob id=some j∧j.has b)∨w.heap.size≤b)
  (hnG: ∀j,ob id=some j→ ∀b,j.has b→G b→w'.heap[b]? =w.heap[b]?)
  (ho:K0 G w' (upd ob id (some i)) i o)
  (hs:o.owned=true→ ∀b,i.has b→ ¬G b)
  :C8 G w' (upd ob id (some i)) (upd m id (some o))∧C3 ob (upd ob id (some i))∧ ∀b,N9 (upd ob id (some i)) b→N9 ob b∨w.heap.size≤b:=by
 have hGw: ∀b,G b→w'.heap[b]? =w.heap[b]? :=fun b hG=>by
  by_cases hx: ∀j,ob id=some j→ ¬j.has b
  ·exact hh b (h.lt b hG) hx
  ·simp only[Classical.not_forall,Classical.not_not]at hx;obtain⟨j,hj,hjb⟩:=hx;exact hnG j hj b hjb hG
 have hob:C3 ob (upd ob id (some i)):=fun x j hj=>by
  by_cases hx:x=id
  ·subst hx;exact⟨i,by simp,hi j hj⟩
  ·exact⟨j,by rw[E8 hx];exact hj, .inl rfl⟩
 refine⟨⟨?_,?_,?_,?_,?_⟩,hob,?_⟩
 ·intro x;by_cases hx:x=id
  ·subst hx;simp
  ·rw[E8 hx,E8 hx];exact h.dom x
 ·intro x y j j' b hj hj' hbj hbj';by_cases hx:x=id
  ·by_cases hy:y=id
   ·rw[hx,hy]
   ·subst hx;simp only[W3,Option.some.injEq]at hj;subst hj;rw[E8 hy]at hj';rcases hb b hbj with⟨k,hk,hkb⟩ |hlt
    ·exact h.inj _ _ _ _ b hk hj' hkb hbj'
    ·cases ho':m y with
     |none=>rw[(h.dom y).1 ho']at hj';cases hj'
     |some o'=>have:=(h.own y o' j' ho' hj').has_lt hbj';omega
  ·by_cases hy:y=id
   ·subst hy;simp only[W3,Option.some.injEq]at hj';subst hj';rw[E8 hx]at hj;rcases hb b hbj' with⟨k,hk,hkb⟩ |hlt
    ·exact h.inj _ _ _ _ b hj hk hbj hkb
    ·cases ho':m x with
     |none=>rw[(h.dom x).1 ho']at hj;cases hj
     |some o'=>have:=(h.own x o' j ho' hj).has_lt hbj;omega
   ·rw[E8 hx]at hj;rw[E8 hy]at hj';exact h.inj _ _ _ _ b hj hj' hbj hbj'
 ·intro b hG;exact Nat.lt_of_lt_of_le (h.lt b hG) hsz
 ·intro x o' j ho' hj;by_cases hx:x=id
  ·subst hx;simp only[W3,Option.some.injEq]at ho' hj;subst ho';subst hj;exact ho
  ·rw[E8 hx]at ho' hj;have hr:=h.own x o' j ho' hj;refine hr.ext (fun _ h=>h) hGw hob fun b hb'=>hh b (hr.has_lt hb') fun k hk hkb=> ?_;exact hx (h.inj _ _ _ _ b hj hk hb' hkb)
 ·intro x o' j b ho' hown hj hb';by_cases hx:x=id
  ·subst hx;simp only[W3,Option.some.injEq]at ho' hj;subst ho';subst hj;exact hs hown b hb'
  ·rw[E8 hx]at ho' hj;exact h.sep x o' j b ho' hown hj hb'
 ·rintro b ⟨x,j,hj,hbj⟩;by_cases hx:x=id
  ·subst hx;simp only[W3,Option.some.injEq]at hj;subst hj;rcases hb b hbj with⟨k,hk,hkb⟩ |hlt
   ·exact .inl ⟨_,k,hk,hkb⟩
   ·exact .inr hlt
  ·rw[E8 hx]at hj;exact .inl ⟨x,j,hj,hbj⟩
def A8.isP:A8→Bool
 | .arrP .. =>true
 |_=>false
theorem K0.plain {G:Nat→Prop}{w:World}{ob:Place}{i:H4}{o:A8}(h:K0 G w ob i o)(hp:o.isP=false):i.kind= .cells∨i.kind= .map:=by
 cases o with
 |arrP=>cases hp
 |map=>exact .inr h.1
 |mapS=>exact .inr h.1
 |_=>exact .inl h.1
theorem C8.update {G:Nat→Prop}{w w':World}{ob:Place}{m:Nat→Option A8}(h:C8 G w ob m)(id:Nat)(o:A8)(i:H4)
  (hsz:w.heap.size≤w'.heap.size)
  (hh: ∀b,b<w.heap.size→(∀j,ob id=some j→j.blk≠some b)→w'.heap[b]? =w.heap[b]?)
  (hi: ∀j,ob id=some j→i=j∨(j.len<i.len∧j.kind= .cells))
  (hb: ∀b,i.blk=some b→(∃j,ob id=some j∧j.blk=some b)∨w.heap.size≤b)
  (hnG: ∀j,ob id=some j→ ∀b,j.blk=some b→G b→w'.heap[b]? =w.heap[b]?)
  (ho:K0 G w' (upd ob id (some i)) i o)
  (hs:o.owned=true→ ∀b,i.blk=some b→ ¬G b)
  (hm0: ∀o0,m id=some o0→o0.isP=false)(hP:o.isP=false:=by rfl)
  :C8 G w' (upd ob id (some i)) (upd m id (some o))∧C3 ob (upd ob id (some i))∧ ∀b,N9 (upd ob id (some i)) b→N9 ob b∨w.heap.size≤b:=by
 have hki:=ho.plain hP
 have hkj: ∀j,ob id=some j→ ∀b,j.has b→j.blk=some b:=fun j hj b hb=>by
  cases hm:m id with
  |none=>rw[(h.dom id).1 hm]at hj;cases hj
  |some o0=>exact H4.has_plain ((h.own id o0 j hm hj).plain (hm0 o0 hm)) hb
 refine h.updateP id o i hsz (fun b hb hj=>hh b hb fun j hj' hjb=>hj j hj' (.inl hjb)) (fun j hj=> ?_) (fun b hb'=> ?_) (fun j hj b hjb=>hnG j hj b (hkj j hj b hjb)) ho (fun how b hb'=>hs how b (H4.has_plain hki hb'))
 ·rcases hi j hj with h1 |⟨h1,h2⟩
  ·exact .inl h1
  ·exact .inr (.inr ⟨h1,by rw[h2];simp⟩)
 ·rcases hb b (H4.has_plain hki hb')with⟨j,hj,hjb⟩ |h1
  ·exact .inl ⟨j,hj, .inl hjb⟩
  ·exact .inr h1
def H4.to(j i:H4):Prop:=i=j∨(∃p q,j.kind= .priv p∧i= {j with kind:=q})∨(j.len<i.len∧j.kind≠ .map)
theorem C8.update2 {G:Nat→Prop}{w w':World}{ob:Place}{m:Nat→Option A8}(h:C8 G w ob m)(x y:Nat)(hne:x≠y)(o1 o2:A8)(i1 i2:H4)
  (hsz:w.heap.size≤w'.heap.size)
  (hh: ∀b,b<w.heap.size→(∀j,ob x=some j→ ¬j.has b)→(∀j,ob y=some j→ ¬j.has b)→w'.heap[b]? =w.heap[b]?)
  (hG: ∀b,G b→w'.heap[b]? =w.heap[b]?)
  (hi1: ∀j,ob x=some j→j.to i1)(hi2: ∀j,ob y=some j→j.to i2)
  (hb1: ∀b,i1.has b→(∃j,ob x=some j∧j.has b)∨(∃j,ob y=some j∧j.has b))
  (hb2: ∀b,i2.has b→(∃j,ob x=some j∧j.has b)∨(∃j,ob y=some j∧j.has b))
  (hd: ∀b,i1.has b→i2.has b→False)
  (ho1:K0 G w' (upd (upd ob x (some i1)) y (some i2)) i1 o1)(ho2:K0 G w' (upd (upd ob x (some i1)) y (some i2)) i2 o2)
  (hs1:o1.owned=true→ ∀b,i1.has b→ ¬G b)(hs2:o2.owned=true→ ∀b,i2.has b→ ¬G b):
  C8 G w' (upd (upd ob x (some i1)) y (some i2)) (upd (upd m x (some o1)) y (some o2))∧C3 ob (upd (upd ob x (some i1)) y (some i2))∧
   ∀b,N9 (upd (upd ob x (some i1)) y (some i2)) b→N9 ob b:=by
 have obx:upd (upd ob x (some i1)) y (some i2) x=some i1:=by rw[E8 hne];simp
 have oby:upd (upd ob x (some i1)) y (some i2) y=some i2:=by simp
 have obo: ∀q,q≠x→q≠y→upd (upd ob x (some i1)) y (some i2) q=ob q:=fun q h1 h2=>by rw[E8 h2,E8 h1]
 have mx:upd (upd m x (some o1)) y (some o2) x=some o1:=by rw[E8 hne];simp
 have my:upd (upd m x (some o1)) y (some o2) y=some o2:=by simp
 have mo: ∀q,q≠x→q≠y→upd (upd m x (some o1)) y (some o2) q=m q:=fun q h1 h2=>by rw[E8 h2,E8 h1]
 have hob:C3 ob (upd (upd ob x (some i1)) y (some i2)):=fun q j hj=>by
  by_cases hx:q=x
  ·subst hx;exact⟨i1,obx,hi1 j hj⟩
  ·by_cases hy:q=y
   ·subst hy;exact⟨i2,oby,hi2 j hj⟩
   ·exact⟨j,by rw[obo q hx hy];exact hj, .inl rfl⟩
 generalize upd (upd ob x (some i1)) y (some i2)=ob' at*;generalize upd (upd m x (some o1)) y (some o2)=m' at*;have tri: ∀q j,ob' q=some j→(q=x∧j=i1)∨(q=y∧j=i2)∨(q≠x∧q≠y∧ob q=some j):=fun q j hj=>by
  by_cases hx:q=x
  ·subst hx;rw[obx]at hj;injection hj with hj;exact .inl ⟨rfl,hj.symm⟩
  ·by_cases hy:q=y
   ·subst hy;rw[oby]at hj;injection hj with hj;exact .inr (.inl ⟨rfl,hj.symm⟩)
   ·exact .inr (.inr ⟨hx,hy,by rw[←obo q hx hy];exact hj⟩)
 have oth: ∀q j b,q≠x→q≠y→ob q=some j→j.has b→((∃j,ob x=some j∧j.has b)∨(∃j,ob y=some j∧j.has b))→False:=fun q j b hx hy hq hjb hc=>by
  rcases hc with⟨k,hk,hkb⟩ |⟨k,hk,hkb⟩
  ·exact hx (h.inj _ _ _ _ b hq hk hjb hkb)
  ·exact hy (h.inj _ _ _ _ b hq hk hjb hkb)
 refine⟨⟨fun q=> ?_,fun q r j k b hj hk hjb hkb=> ?_,fun b hb=>Nat.lt_of_lt_of_le (h.lt b hb) hsz,fun q o j ho hj=> ?_,fun q o j b ho hown hj hjb=> ?_⟩,hob,?_⟩
 ·by_cases hx:q=x
  ·subst hx;rw[mx,obx];simp
  ·by_cases hy:q=y
   ·subst hy;rw[my,oby];simp
   ·rw[mo q hx hy,obo q hx hy];exact h.dom q
 ·rcases tri q j hj with⟨rfl,rfl⟩ |⟨rfl,rfl⟩ |⟨a1,a2,a3⟩ <;> rcases tri r k hk with⟨rfl,rfl⟩ |⟨rfl,rfl⟩ |⟨c1,c2,c3⟩
  ·rfl
  ·exact(hd b hjb hkb).elim
  ·exact(oth r k b c1 c2 c3 hkb (hb1 b hjb)).elim
  ·exact(hd b hkb hjb).elim
  ·rfl
  ·exact(oth r k b c1 c2 c3 hkb (hb2 b hjb)).elim
  ·exact(oth q j b a1 a2 a3 hjb (hb1 b hkb)).elim
  ·exact(oth q j b a1 a2 a3 hjb (hb2 b hkb)).elim
  ·exact h.inj _ _ _ _ b a3 c3 hjb hkb
 ·rcases tri q j hj with⟨rfl,rfl⟩ |⟨rfl,rfl⟩ |⟨a1,a2,a3⟩
  ·rw[mx]at ho;injection ho with ho;subst ho;exact ho1
  ·rw[my]at ho;injection ho with ho;subst ho;exact ho2
  ·rw[mo q a1 a2]at ho;have hr:=h.own q o j ho a3;exact hr.ext (fun _ h=>h) hG hob fun b hb=>hh b (hr.has_lt hb) (fun k hk hkb=>oth q j b a1 a2 a3 hb (.inl ⟨k,hk,hkb⟩)) (fun k hk hkb=>oth q j b a1 a2 a3 hb (.inr ⟨k,hk,hkb⟩))
 ·rcases tri q j hj with⟨rfl,rfl⟩ |⟨rfl,rfl⟩ |⟨a1,a2,a3⟩
  ·rw[mx]at ho;injection ho with ho;subst ho;exact hs1 hown b hjb
  ·rw[my]at ho;injection ho with ho;subst ho;exact hs2 hown b hjb
  ·rw[mo q a1 a2]at ho;exact h.sep q o j b ho hown a3 hjb
 ·rintro b ⟨q,j,hj,hjb⟩;rcases tri q j hj with⟨rfl,rfl⟩ |⟨rfl,rfl⟩ |⟨a1,a2,a3⟩
  ·rcases hb1 b hjb with⟨k,hk,hkb⟩ |⟨k,hk,hkb⟩
   ·exact⟨_,k,hk,hkb⟩
   ·exact⟨_,k,hk,hkb⟩
  ·rcases hb2 b hjb with⟨k,hk,hkb⟩ |⟨k,hk,hkb⟩
   ·exact⟨_,k,hk,hkb⟩
   ·exact⟨_,k,hk,hkb⟩
  ·exact⟨q,j,a3,hjb⟩
theorem C8.heap_eq {G:Nat→Prop}{w w':World}{ob:Place}{m:Nat→Option A8}(h:C8 G w ob m)(he:w'.heap=w.heap):C8 G w' ob m where
 dom:=h.dom
 inj:=h.inj
 lt:=by rw[he];exact h.lt
 own:=fun id o i ho hi=>(h.own id o i ho hi).ext (fun _ h=>h) (fun _ _=>by rw[he]) (C3.refl ob) (fun _ _=>by rw[he])
 sep:=h.sep
end Go.Abs
end
section
namespace Go.Abs
inductive AX where
 |t (n:Nat)
 |k (v:AV)
inductive AOp where
 |mov (x:AX)
 |pick (c a b:AX)
 |alloc (zero:List Value)
 |box (x:AX)
 |build (zero:List Value) (C0:List (Nat×Nat×AX))
 |bslice (esz len:Nat) (zero:List Value) (C0:List (Nat×Nat×AX))
 |load (n:Option Nat) (x:AX)
 |store (n:Nat) (x y:AX)
 |bin (op:BinOp) (x y:AX)
 |eqa (shape:List Bool) (neg:Bool) (x y:AX)
 |un (op:UnOp) (x:AX)
 |convI (k:IntKind) (x:AX)
 |faddr (off:Nat) (x:AX)
 |fld (off:Nat) (n:Option Nat) (x:AX)
 |iaddr (esz:Nat) (x i:AX)
 |aaddr (len esz:Nat) (x i:AX)
 |len (x:AX)
 |mlen (x:AX)
 |eqb (neg:Bool) (x y:AX)
 |isnil (kd:Nat) (neg:Bool) (x:AX)
 |aslice (len esz:Nat) (x:AX)
 |append (esz bytes:Nat) (x y:AX)
 |slice (esz:Nat) (x:AX) (lo hi mx:Option AX)
 |mkslice (esz bytes:Nat) (zero:List Value) (n c:AX)
 |ext (x:AX) (i:Nat)
 |mkfn (f:Fn) (first cap:List AX)
 |nilck (x:AX)
 |minmax (isMax:Bool) (x y:AX)
 |mkmap (k:IntKind)
 |lookup (k:IntKind) (zero:Value) (ok:Bool) (x i:AX)
 |mset (k:IntKind) (x i y:AX)
 |mkmapS (n:Nat)
 |lookupS (n:Nat) (zero:Value) (ok:Bool) (x i:AX)
 |msetS (n:Nat) (x i y:AX)
 |call (f:FuncId) (xs:List AX)
 |callv (x:AX) (xs:List AX)
 |sidx (x i:AX)
 |bstr (x:AX)
 |eqs (neg:Bool) (x y:AX)
 |copy (z:Nat) (x y:AX)
 |clr (z:Nat) (zero:List Value) (x:AX)
 |cap0 (x:AX)
 |appz (esz bytes:Nat) (zero:List Value) (x n:AX)
 |aidx (len:Nat) (x i:AX)
 |slen (x:AX)
 |sadd (x y:AX)
 |sslice (x:AX) (lo hi:Option AX)
 |sbytes (x:AX)
 |aslc (len esz:Nat) (x:AX) (lo hi:Option AX)
 |bad
structure Res where
 val:Option AV
 wr:List (Nat×A8)
def nid(d:Nat):Nat:=16*(d+1)
def M3:List AV→Nat→List AV→List AV
 |cs,0,p=>p++cs.drop p.length
 |c::cs,n+1,p=>c::M3 cs n p
 | [],_+1,p=>p
theorem A9t: ∀(cs:List AV) (n:Nat) (p:List AV),n≤cs.length→M3 cs n p=cs.take n++p++cs.drop (n+p.length)
 |cs,0,p,_=>by simp[M3]
 |c::cs,n+1,p,h=>by
  have:=A9t cs n p (by simpa using h);simp only[M3,this,List.take_succ_cons,List.cons_append];have e:n+1+p.length=(n+p.length)+1:=by omega
  rw[e,List.drop_succ_cons]
 | [],n+1,p,h=>by simp at h
def Sq.app(s t:Sq):Sq:=⟨s.n+t.n,fun i=>if i<s.n then s.g i else t.g (i-s.n)⟩
def Sq.set(s:Sq)(k:Nat)(c:List AV):Sq:=⟨s.n,fun i=>if i=k then c else s.g i⟩
def Sq.nil:Sq:=⟨0,fun _=> []⟩
def B6j:Nat→List AV→Option (List AV)
 |0,_=>some []
 |n+1,c::cs=>(B6j n cs).map (c::·)
 |_+1,[]=>none
theorem B6a: ∀(n:Nat) (cs r:List AV),B6j n cs=some r→r=cs.take n∧n≤cs.length
 |0,cs,r,h=>by simp[B6j]at h;simp[h]
 |n+1,c::cs,r,h=>by simp only[B6j,Option.map_eq_some_iff]at h;obtain⟨r',h',rfl⟩:=h;obtain⟨rfl,hl⟩:=B6a n cs r' h';exact⟨rfl,by simpa using hl⟩
 |n+1,[],r,h=>by simp[B6j]at h
def A53:Option Nat→List AV→Option AV
 |none,c::_=>some c
 |none,[]=>none
 |some n,cs=>(B6j n cs).map .agg
def cellsOf(m:Nat→Option A8)(id k tot:Nat):Option (Prop×List AV):=
 match m id with
 |some (.box cs)=>some (k=0∧tot=1,cs)
 |some (.arr _ s)=>some (tot=s.n,s.g k)
 |some (.frz _ s)=>some (tot=s.n,s.g k)
 |some (.frzb cs)=>some (k=0∧tot=1,cs)
 |_=>none
mutual
def E7(m:Nat→Option A8):AV→Option (Prop×AV×List (Nat×A8))
 | .sl id off len tot=>match m id with
   |some (.arr z s)=>some (tot=s.n, .dsl z len (fun i=>s.g (off+i)),[(id, .frz z s)])
   |some (.frz z s)=>some (tot=s.n, .dsl z len (fun i=>s.g (off+i)),[])
   |_=>none
 | .ptr id k o tot=>match m id with
   |some (.box cs)=>if Q4 cs then some (k=0∧tot=1, .fptr (cs.drop o),[(id, .frzb cs)])else none
   |some (.frzb cs)=>some (k=0∧tot=1, .fptr (cs.drop o),[])
   |_=>none
 | .fn f a b=>match O3 m a,O3 m b with
   |some (p,a',w),some (q,b',w')=>some (p∧q, .fn f a' b',w++w')
   |_,_=>none
 | .sc v=>some (True, .sc v,[])
 | .dsl z n g=>some (True, .dsl z n g,[])
 | .dslx z n g=>some (True, .dslx z n g,[])
 | .fptr cs=>some (True, .fptr cs,[])
 | .mp _=>none
 | .agg _=>none
 | .tup _=>none
 | .own .. =>none
 | .hole=>none
def O3(m:Nat→Option A8):List AV→Option (Prop×List AV×List (Nat×A8))
 | []=>some (True,[],[])
 |c::cs=>match E7 m c,O3 m cs with
  |some (p,c',w),some (q,cs',w')=>some (p∧q,c'::cs',w++w')
  |_,_=>none
end
def A1x(m:Nat→Option A8):Nat→AV→Option (Prop×Bool)
 |0, .sc (.slice a _ _)=>some (True,a.isNone)
 |0, .dsl _ n _=>some (0<n,false)
 |0, .dslx _ n _=>some (0<n,false)
 |0, .sl id _ n tot=>match m id with
  |some (.arr _ s)=>some (0<n∧tot=s.n,false)
  |some (.frz _ s)=>some (0<n∧tot=s.n,false)
  |_=>none
 |1, .sc (.pointer a)=>some (True,a.isNone)
 |1, .ptr .. =>some (True,false)
 |1, .fptr _=>some (True,false)
 |2, .sc (.map a)=>some (True,a.isNone)
 |2, .mp _=>some (True,false)
 |3, .sc .nilFunc=>some (True,true)
 |3, .fn .. =>some (True,false)
 |_,_=>none
def esL(e:AX→Option AV):List AX→Option (List AV)
 | []=>some []
 |x::xs=>match e x,esL e xs with
  |some v,some vs=>some (v::vs)
  |_,_=>none
def N1(e:AX→Option AV):Option AX→Option (Option Int)
 |none=>some none
 |some x=>match e x with
  |some (.sc (.int _ j))=>some (some j)
  |_=>none
def L0(m:Nat→Option A8)(esz:Nat):AV→Option (Prop×Sq)
 | .sc (.slice none 0 0)=>some (True,⟨0,fun _=> []⟩)
 | .sc (.slice (some _) 0 _)=>some (True,⟨0,fun _=> []⟩)
 | .dsl z n g=>if z=esz then some (True,⟨n,g⟩)else none
 | .dslx z n g=>if z=esz then some (True,⟨n,g⟩)else none
 | .sl id off len tot=>match m id with
   |some (.arr z s)=>if z=esz then some (tot=s.n,⟨len,fun i=>s.g (off+i)⟩)else none
   |some (.frz z s)=>if z=esz then some (tot=s.n,⟨len,fun i=>s.g (off+i)⟩)else none
   |_=>none
 |_=>none
def A8j:BinOp→AV→AV→Option (Prop×AV)
 | .add, .sc (.int k a), .sc (.int k' b)=>if k=k' then some (True, .sc (.int k (k.wrap (a+b))))else none
 | .sub, .sc (.int k a), .sc (.int k' b)=>if k=k' then some (True, .sc (.int k (k.wrap (a-b))))else none
 | .mul, .sc (.int k a), .sc (.int k' b)=>if k=k' then some (True, .sc (.int k (k.wrap (a*b))))else none
 | .quo, .sc (.int k a), .sc (.int k' b)=>if k=k' then some (b≠0, .sc (.int k (k.wrap (a.tdiv b))))else none
 | .rem, .sc (.int k a), .sc (.int k' b)=>if k=k' then some (b≠0, .sc (.int k (a.tmod b)))else none
 | .and, .sc (.int k a), .sc (.int k' b)=>if k=k' then some (True, .sc (.int k (k.wrap (BitVec.ofInt k.bits a &&& BitVec.ofInt k.bits b).toNat)))else none
 | .or, .sc (.int k a), .sc (.int k' b)=>if k=k' then some (True, .sc (.int k (k.wrap (BitVec.ofInt k.bits a ||| BitVec.ofInt k.bits b).toNat)))else none
 | .xor, .sc (.int k a), .sc (.int k' b)=>if k=k' then some (True, .sc (.int k (k.wrap (BitVec.ofInt k.bits a ^^^ BitVec.ofInt k.bits b).toNat)))else none
 | .shl, .sc (.int k a), .sc (.int _ b)=>some (0≤b, .sc (.int k (k.wrap (a*2^(min b.toNat k.bits)))))
 | .shr, .sc (.int k a), .sc (.int _ b)=>some (0≤b, .sc (.int k (a.fdiv (2^(min b.toNat k.bits)))))
 | .eql, .sc (.int k a), .sc (.int k' b)=>if k=k' then some (True, .sc (.bool (a==b)))else none
 | .neq, .sc (.int k a), .sc (.int k' b)=>if k=k' then some (True, .sc (.bool (a != b)))else none
 | .lss, .sc (.int k a), .sc (.int k' b)=>if k=k' then some (True, .sc (.bool (decide (a<b))))else none
 | .leq, .sc (.int k a), .sc (.int k' b)=>if k=k' then some (True, .sc (.bool (decide (a≤b))))else none
 | .gtr, .sc (.int k a), .sc (.int k' b)=>if k=k' then some (True, .sc (.bool (decide (a>b))))else none
 | .geq, .sc (.int k a), .sc (.int k' b)=>if k=k' then some (True, .sc (.bool (decide (a≥b))))else none
 |_,_,_=>none
def D0m:UnOp→AV→Option AV
 | .not, .sc (.bool b)=>some (.sc (.bool !b))
 | .neg, .sc (.int k n)=>some (.sc (.int k (k.wrap (0-n))))
 | .xor, .sc (.int k n)=>some (.sc (.int k (k.wrap (BitVec.ofInt k.bits (if k.signed then -1 else k.max) ^^^ BitVec.ofInt k.bits n).toNat)))
 |_,_=>none
def A7f:List Bool→List AV→List AV→Option Bool
 | [],[],[]=>some true
 |true::s, .sc (.int k a)::xs, .sc (.int k' b)::ys=>if k=k' then(A7f s xs ys).map fun r=>(a==b)&&r else none
 |false::s, .sc (.bool a)::xs, .sc (.bool b)::ys=>(A7f s xs ys).map fun r=>(a==b)&&r
 |_,_,_=>none
def A21(e:AX→Option AV):List AV→List (Nat×Nat×AX)→Option (List AV)
 |cs,[]=>some cs
 |cs,(off,size,x)::r=>match e x with
  |some (.tup _)=>none
  |some v=>if v.cells.length=size∧off+size≤cs.length then A21 e (M3 cs off v.cells) r else none
  |none=>none
def B9m:Value→AV
 | .agg cs=> .agg (cs.toList.map .sc)
 |z=> .sc z
def B9q:List (Int×AV)→Int→Option AV
 | [],_=>none
 |(z,v)::r,k=>if k==z then some v else B9q r k
def B1b:List AV→Option (List Int)
 | []=>some []
 | .sc (.int .i64 z)::cs=>(B1b cs).map (z::·)
 |_=>none
def B27:List (List Int×AV)→List Int→Option AV
 | [],_=>none
 |(z,v)::r,k=>if k==z then some v else B27 r k
def A9l:List (List Int×AV)→List Int→AV→List (List Int×AV)
 | [],k,v=> [(k,v)]
 |(z,u)::r,k,v=>if k==z then(z,v)::r else(z,u)::A9l r k v
def B3s:List (Int×AV)→Int→AV→List (Int×AV)
 | [],k,v=> [(k,v)]
 |(z,u)::r,k,v=>if k==z then(z,v)::r else(z,u)::B3s r k v
def A55(m:Nat→Option A8)(nd id k o tot z:Nat)(s:Sq)(n:Option Nat):List AV→Option (Prop×Res)
 | .own z' n' g'::_=>match n,m nd with
   |none,none=>some (tot=s.n∧o<z,⟨some (.sl nd 0 n' n'),[(id, .arrP z (s.set k (M3 (s.g k) o [.hole]))),(nd, .arr z' ⟨n',g'⟩)]⟩)
   |_,_=>none
 | .hole::_=>none
 |c::_=>match n with
  |none=>some (tot=s.n∧o<z,⟨some c,[]⟩)
  |some _=>none
 | []=>none
def B46(m:Nat→Option A8)(id k o tot z:Nat)(s:Sq)(n:Nat):AV→Option (Prop×Res)
 | .sl id' off len tot'=>match m id' with
   |some (.arr z' s')=>if n=1∧id'≠id then some (tot=s.n∧o<z∧off=0∧len=s'.n∧tot'=s'.n,⟨none,[(id, .arrP z (s.set k (M3 (s.g k) o [.own z' s'.n s'.g]))),(id', .gone)]⟩)else none
   |_=>none
 |v=>if v.cells.all AV.pure=true∧v.cells.length=n then some (tot=s.n∧o+n≤z,⟨none,[(id, .arrP z (s.set k (M3 (s.g k) o v.cells)))]⟩)else none
def D86:List AV→UInt8
 | [.sc (.int _ k)]=>UInt8.ofNat k.toNat
 |_=>0
def D0g(t:Sq):ByteArray:=⟨((List.range t.n).map fun i=>D86 (t.g i)).toArray⟩
def AV.offId(id:Nat):AV→Bool
 | .sl id' _ _ _=>id' != id
 |_=>true
def eval(op:AOp)(e:AX→Option AV)(m:Nat→Option A8)(d:Nat):Option (Prop×Res):=
 match op with
 | .mov x=>match e x with
   |some v=>some (True,⟨some v,[]⟩)
   |none=>none
 | .alloc zero=>match m (nid d)with
   |none=>some (True,⟨some (.ptr (nid d) 0 0 1),[(nid d, .box (zero.map .sc))]⟩)
   |some _=>none
 | .box x=>match m (nid d),e x with
   |none,some (.agg cs)=>some (True,⟨some (.ptr (nid d) 0 0 1),[(nid d, .box cs)]⟩)
   |none,some (.tup _)=>none
   |none,some v=>some (True,⟨some (.ptr (nid d) 0 0 1),[(nid d, .box [v])]⟩)
   |_,_=>none
 | .build zero C0=>match A21 e (zero.map .sc) C0 with
   |some cs=>some (True,⟨some (.agg cs),[]⟩)
   |none=>none
 | .bslice esz len zero C0=>match m (nid d),A21 e (zero.map .sc) C0 with
   |none,some cs=>match O3 m cs with
    |some (p,cs',w)=>some (p,⟨some (.sl (nid d) 0 len len),w++ [(nid d, .arr esz ⟨len,fun i=>(cs'.drop (i*esz)).take esz⟩)]⟩)
    |none=>none
   |_,_=>none
 | .load n x=>match e x with
   |some (.fptr cs)=>(A53 n cs).map fun v=>(True,⟨some v,[]⟩)
   |some (.ptr id k o tot)=>match m id with
    |some (.arrP z s)=>A55 m (nid d) id k o tot z s n ((s.g k).drop o)
    |_=>match cellsOf m id k tot with
     |some (p,cs)=>(A53 n (cs.drop o)).map fun v=>(p,⟨some v,[]⟩)
     |none=>none
   |_=>none
 | .store n x y=>match e x,e y with
   |some (.ptr id k o tot),some v=>match m id with
    |some (.arrP z s)=>B46 m id k o tot z s n v
    |some (.box cs)=>if v.cells.length=n∧o+n≤cs.length∧v.cells.all AV.one then some (k=0∧tot=1,⟨none,[(id, .box (M3 cs o v.cells))]⟩)else none
    |some (.arr z s)=>match O3 m v.cells with
     |some (p,cs',w)=>some (p∧tot=s.n∧cs'.length=n∧o+n≤z∧(w.all fun x=>x.1 != id),⟨none,w++ [(id, .arr z (s.set k (M3 (s.g k) o cs')))]⟩)
     |none=>none
    |_=>none
   |_,_=>none
 | .bin op x y=>match e x,e y with
   |some a,some b=>(A8j op a b).map fun(p,v)=>(p,⟨some v,[]⟩)
   |_,_=>none
 | .eqa shape neg x y=>match e x,e y with
   |some (.agg xs),some (.agg ys)=>(A7f shape xs ys).map fun b=>(True,⟨some (.sc (.bool (if neg then !b else b))),[]⟩)
   |_,_=>none
 | .un op x=>match e x with
   |some a=>(D0m op a).map fun v=>(True,⟨some v,[]⟩)
   |none=>none
 | .convI k x=>match e x with
   |some (.sc (.int _ n))=>some (True,⟨some (.sc (.int k (k.wrap n))),[]⟩)
   |_=>none
 | .faddr off x=>match e x with
   |some (.fptr cs)=>some (True,⟨some (.fptr (cs.drop off)),[]⟩)
   |some (.ptr id i o tot)=>some (True,⟨some (.ptr id i (o+off) tot),[]⟩)
   |_=>none
 | .fld off n x=>match e x with
   |some (.agg cs)=>(A53 n (cs.drop off)).map fun v=>(True,⟨some v,[]⟩)
   |_=>none
 | .iaddr esz x i=>match e x,e i with
   |some (.dsl z n g),some (.sc (.int _ j))=>if z=esz then some (0≤j∧j<n,⟨some (.fptr (g j.toNat)),[]⟩)else none
   |some (.dslx z n g),some (.sc (.int _ j))=>if z=esz then some (0≤j∧j<n,⟨some (.fptr (g j.toNat)),[]⟩)else none
   |some (.sl id off len tot),some (.sc (.int _ j))=>match m id with
    |some (.arr z s)=>if z=esz then some (tot=s.n∧0≤j∧j<len,⟨some (.ptr id (off+j.toNat) 0 tot),[]⟩)else none
    |some (.frz z s)=>if z=esz then some (tot=s.n∧0≤j∧j<len,⟨some (.ptr id (off+j.toNat) 0 tot),[]⟩)else none
    |some (.arrP z s)=>if z=esz then some (tot=s.n∧0≤j∧j<len,⟨some (.ptr id (off+j.toNat) 0 tot),[]⟩)else none
    |_=>none
   |_,_=>none
 | .aaddr len esz x i=>match e x,e i with
   |some (.fptr cs),some (.sc (.int _ j))=>some (0≤j∧j<len,⟨some (.fptr (cs.drop (j.toNat*esz))),[]⟩)
   |some (.ptr id k o tot),some (.sc (.int _ j))=>some (0≤j∧j<len,⟨some (.ptr id k (o+j.toNat*esz) tot),[]⟩)
   |_,_=>none
 | .len x=>match e x with
   |some (.dsl _ n _)=>some (True,⟨some (.sc (.int .i64 n)),[]⟩)
   |some (.dslx _ n _)=>some (True,⟨some (.sc (.int .i64 n)),[]⟩)
   |some (.sl _ _ n _)=>some (True,⟨some (.sc (.int .i64 n)),[]⟩)
   |some (.sc (.slice _ n _))=>some (True,⟨some (.sc (.int .i64 n)),[]⟩)
   |_=>none
 | .sidx x i=>match e x,e i with
   |some (.sc (.string s)),some (.sc (.int _ j))=>some (0≤j∧j.toNat<s.size,⟨some (.sc (.int .u8 ((s.data.getD j.toNat 0).toNat:Int))),[]⟩)
   |_,_=>none
 | .bstr x=>match e x with
   |some b=>match L0 m 1 b with
    |some (p,t)=>some (p∧ ∀i,i<t.n→ ∃k,t.g i= [.sc (.int .u8 k)],⟨some (.sc (.string (D0g t))),[]⟩)
    |none=>none
   |none=>none
 | .cap0 x=>match e x with
   |some (.sc (.slice none 0 0))=>some (True,⟨some (.sc (.int .i64 0)),[]⟩)
   |_=>none
 | .appz esz bytes zero x n=>match m (nid d),e x,e n with
   |none,some (.sc (.slice none 0 0)),some (.sc (.int _ k))=>some (0<k∧k*bytes≤140737488355328∧k≤9223372036854775807,
     ⟨some (.sl (nid d) 0 k.toNat k.toNat),[(nid d, .arr esz ⟨k.toNat,fun _=>zero.map .sc⟩)]⟩)
   |_,_,_=>none
 | .aidx len x i=>match e x,e i with
   |some (.agg cs),some (.sc (.int _ j))=>some (0≤j∧j<len∧len≤cs.length,⟨some (cs.getD j.toNat .hole),[]⟩)
   |_,_=>none
 | .eqs neg x y=>match e x,e y with
   |some (.sc (.string a)),some (.sc (.string b))=>some (True,⟨some (.sc (.bool (if neg then !(a.toList==b.toList)else(a.toList==b.toList)))),[]⟩)
   |_,_=>none
 | .copy z' x y=>match e x,e y with
   |some (.sl id off n tot),some b=>match m id,L0 m z' b with
    |some (.arr z s),some (p,t)=>if z=z'∧b.offId id=true then some (p∧tot=s.n,
      ⟨some (.sc (.int .i64 (min t.n n:Nat))),[(id, .arr z ⟨s.n,fun i=>if off≤i∧i<off+min t.n n then t.g (i-off)else s.g i⟩)]⟩)else none
    |_,_=>none
   |_,_=>none
 | .clr z' zero x=>match e x with
   |some (.sl id off n tot)=>match m id with
    |some (.arr z s)=>if z=z'∧zero.length=z' then some (tot=s.n,⟨some (.tup []),[(id, .arr z ⟨s.n,fun i=>if off≤i∧i<off+n then zero.map .sc else s.g i⟩)]⟩)else none
    |_=>none
   |_=>none
 | .eqb neg x y=>match e x,e y with
   |some (.sc (.bool a)),some (.sc (.bool b))=>some (True,⟨some (.sc (.bool (if neg then !(a==b)else(a==b)))),[]⟩)
   |_,_=>none
 | .isnil kd neg x=>match e x with
   |some a=>(A1x m kd a).map fun(p,b)=>(p,⟨some (.sc (.bool (if neg then !b else b))),[]⟩)
   |none=>none
 | .slice esz x lo hi mx=>match e x,N1 e lo,N1 e hi,N1 e mx with
   |some (.dsl z n g),some l,some h,some m=>if z=esz then(match m with
    |none=>some (0≤l.getD 0∧l.getD 0≤h.getD n∧h.getD n≤n,⟨some (.dsl z (h.getD n-l.getD 0).toNat (fun i=>g ((l.getD 0).toNat+i))),[]⟩)
    |some k=>some (0≤l.getD 0∧l.getD 0≤h.getD n∧h.getD n≤n∧h.isSome∧k=h.getD n,⟨some (.dslx z (h.getD n-l.getD 0).toNat (fun i=>g ((l.getD 0).toNat+i))),[]⟩))else none
   |some (.dslx z n g),some l,some h,some none=>if z=esz then
    some (0≤l.getD 0∧l.getD 0≤h.getD n∧h.getD n≤n,⟨some (.dsl z (h.getD n-l.getD 0).toNat (fun i=>g ((l.getD 0).toNat+i))),[]⟩)else none
   |some (.sc (.slice none 0 0)),some l,some h,some none=>some (l.getD 0=0∧h.getD 0=0,⟨some (.sc (.slice none 0 0)),[]⟩)
   |some (.sl id off n tot),some l,some h,some none=>match m id with
    |some (.arr z s)=>if z=esz then some (tot=s.n∧0≤l.getD 0∧l.getD 0≤h.getD n∧h.getD n≤n,⟨some (.sl id (off+(l.getD 0).toNat) (h.getD n-l.getD 0).toNat tot),[]⟩)else none
    |some (.frz z s)=>if z=esz then some (tot=s.n∧0≤l.getD 0∧l.getD 0≤h.getD n∧h.getD n≤n,⟨some (.sl id (off+(l.getD 0).toNat) (h.getD n-l.getD 0).toNat tot),[]⟩)else none
    |_=>none
   |_,_,_,_=>none
 | .aslice len esz x=>match e x with
   |some (.fptr cs)=>some (len*esz≤cs.length,⟨some (.dsl esz len (fun i=>(cs.drop (i*esz)).take esz)),[]⟩)
   |some (.ptr id k o tot)=>match m id with
    |some (.box cs)=>if cs.all AV.pure then some (k=0∧tot=1∧o+len*esz≤cs.length,⟨some (.dsl esz len (fun i=>(cs.drop (o+i*esz)).take esz)),[(id, .frzb cs)]⟩)else none
    |_=>none
   |_=>none
 | .sadd x y=>match e x,e y with
   |some (.sc (.string a)),some (.sc (.string b))=>some (a.size+b.size≤9223372036854775807,⟨some (.sc (.string (a++b))),[]⟩)
   |_,_=>none
 | .slen x=>match e x with
   |some (.sc (.string s))=>some (True,⟨some (.sc (.int .i64 s.size)),[]⟩)
   |_=>none
 | .sslice x lo hi=>match e x,N1 e lo,N1 e hi with
   |some (.sc (.string s)),some l,some h=>some (0≤l.getD 0∧l.getD 0≤h.getD s.size∧h.getD s.size≤s.size,⟨some (.sc (.string (s.extract (l.getD 0).toNat (h.getD s.size).toNat))),[]⟩)
   |_,_,_=>none
 | .sbytes x=>match e x with
   |some (.sc (.string s))=>some (True,⟨some (.dsl 1 s.size (fun i=> [.sc (.int .u8 ((s.data.getD i 0).toNat:Int))])),[]⟩)
   |_=>none
 | .aslc len esz x lo hi=>match e x,N1 e lo,N1 e hi with
   |some (.fptr cs),some l,some h=>some (0≤l.getD 0∧l.getD 0≤h.getD len∧h.getD len≤len∧len*esz≤cs.length,⟨some (.dsl esz (h.getD len-l.getD 0).toNat (fun i=>(cs.drop (((l.getD 0).toNat+i)*esz)).take esz)),[]⟩)
   |some (.ptr id k o tot),some l,some h=>match m id with
    |some (.box cs)=>if cs.all AV.pure then some ((0≤l.getD 0∧l.getD 0≤h.getD len∧h.getD len≤len)∧k=0∧tot=1∧o+len*esz≤cs.length,
      ⟨some (.dsl esz (h.getD len-l.getD 0).toNat (fun i=>(cs.drop (o+((l.getD 0).toNat+i)*esz)).take esz)),[(id, .frzb cs)]⟩)else none
    |_=>none
   |_,_,_=>none
 | .mlen x=>match e x with
   |some (.mp id)=>match m id with
    |some (.map _ es)=>some (True,⟨some (.sc (.int .i64 es.length)),[]⟩)
    |some (.mapS _ es)=>some (True,⟨some (.sc (.int .i64 es.length)),[]⟩)
    |_=>none
   |_=>none
 | .append esz bytes x y=>match e x,e y with
   |some (.sc (.slice none 0 0)),some b=>match m (nid d),L0 m esz b with
    |none,some (p,t)=>some (p∧t.n*bytes≤140737488355328∧t.n≤maxLen,⟨some (.sl (nid d) 0 t.n t.n),[(nid d, .arr esz t)]⟩)
    |_,_=>none
   |some (.dslx z n g),some b=>match L0 m esz b with
    |some (p,t)=>if z=esz then some (p∧(n+t.n)*bytes≤140737488355328∧n+t.n≤maxLen,⟨some (.dsl esz (n+t.n) (Sq.app ⟨n,g⟩ t).g),[]⟩)else none
    |none=>none
   |some (.sl id off n tot),some b=>match m id,L0 m esz b with
    |some (.arr z s),some (p,t)=>if z=esz then some (p∧off=0∧n=s.n∧tot=s.n∧(s.n+t.n)*bytes≤140737488355328∧s.n+t.n≤maxLen,
      ⟨some (.sl id 0 (s.n+t.n) (s.n+t.n)),[(id, .arr z (s.app t))]⟩)else none
    |some (.arrP z s),some (p,t)=>if z=esz then some (p∧off=0∧n=s.n∧tot=s.n∧(s.n+t.n)*bytes≤140737488355328∧s.n+t.n≤maxLen,
      ⟨some (.sl id 0 (s.n+t.n) (s.n+t.n)),[(id, .arrP z (s.app t))]⟩)else none
    |_,_=>none
   |_,_=>none
 | .ext x i=>match e x with
   |some (.tup cs)=>match cs[i]? with
    |some v=>some (True,⟨some v,[]⟩)
    |none=>none
   |_=>none
 | .mkfn f first cap=>match esL e first,esL e cap with
   |some a,some b=>some (True,⟨some (.fn f a b),[]⟩)
   |_,_=>none
 | .nilck x=>match e x with
   |some (.ptr id k o tot)=>some (True,⟨some (.ptr id k o tot),[]⟩)
   |some (.fptr cs)=>some (True,⟨some (.fptr cs),[]⟩)
   |_=>none
 | .mkslice esz bytes zero n c=>match m (nid d),e n,e c with
   |none,some (.sc (.int _ l)),some (.sc (.int _ k))=>some (0≤l∧l≤k∧(bytes:Int)*k≤281474976710656∧k≤9223372036854775807,
     ⟨some (.sl (nid d) 0 l.toNat l.toNat),[(nid d, .arr esz ⟨l.toNat,fun _=>zero.map .sc⟩)]⟩)
   |_,_,_=>none
 | .minmax isMax x y=>match e x,e y with
   |some (.sc (.int k a)),some (.sc (.int _ b))=>some (True,⟨some (.sc (.int k (if isMax then(if b>a then b else a)else(if b<a then b else a)))),[]⟩)
   |_,_=>none
 | .mkmap k=>match m (nid d)with
   |none=>some (True,⟨some (.mp (nid d)),[(nid d, .map k [])]⟩)
   |some _=>none
 | .mkmapS n=>match m (nid d)with
   |none=>some (True,⟨some (.mp (nid d)),[(nid d, .mapS n [])]⟩)
   |some _=>none
 | .lookupS n zero ok x i=>match e x,e i with
   |some (.mp id),some (.agg cs)=>match m id,B1b cs with
    |some (.mapS n' es),some zs=>if n=n'∧zs.length=n then
      let v:=(B27 es zs).getD (B9m zero)
      some (True,⟨some (if ok then .tup [v, .sc (.bool (B27 es zs).isSome)]else v),[]⟩)else none
    |_,_=>none
   |_,_=>none
 | .msetS n x i y=>match e x,e i,e y with
   |some (.mp id),some (.agg cs),some v=>match m id,B1b cs with
    |some (.mapS n' es),some zs=>if n=n'∧zs.length=n∧v.flat then some (True,⟨none,[(id, .mapS n (A9l es zs v))]⟩)else none
    |_,_=>none
   |_,_,_=>none
 | .lookup k zero ok x i=>match e x,e i with
   |some (.mp id),some (.sc (.int k' z))=>match m id with
    |some (.map k'' es)=>if k=k'∧k=k'' then
      let v:=(B9q es z).getD (B9m zero)
      some (True,⟨some (if ok then .tup [v, .sc (.bool (B9q es z).isSome)]else v),[]⟩)else none
    |_=>none
   |_,_=>none
 | .mset k x i y=>match e x,e i,e y with
   |some (.mp id),some (.sc (.int k' z)),some v=>match m id with
    |some (.map k'' es)=>if k=k'∧k=k''∧v.flat then some (True,⟨none,[(id, .map k (B3s es z v))]⟩)else none
    |_=>none
   |_,_,_=>none
 |_=>none
def B4u:Value→Option AV
 | .agg cs=>if cs.all Value.oneCell' then some (.agg (cs.toList.map .sc))else none
 | .tuple _=>none
 |v=>some (.sc v)
def cx:Operand→Option AX
 | .tmp t=>some (.t t)
 | .const v=>(B4u v).map .k
 | .func f=>some (.k (.fn (.func f) [] []))
 | .global _=>none
def wrm(m:Nat→Option A8)(wr:List (Nat×A8)):Nat→Option A8:=wr.foldl (fun m p=>upd m p.1 (some p.2)) m
section
variable {P:Program} {G:Nat→Prop} {w:World} {ob:Place} {m:Nat→Option A8}
def I8(G:Nat→Prop)(w:World)(ob:Place)(ρ:Operand→Value)(e:AX→Option AV):Prop:=∀x ax av,cx x=some ax→e ax=some av→Rel G w ob av (ρ x)
def C2(P:Program)(G:Nat→Prop)(w:World)(ob:Place)(m:Nat→Option A8)(s:Sem Next)(r:Res):Prop:=
 ∃G' w' ob' v,((s.run P w= .ok (.value v) w')∨(s.run P w= .ok .skip w'∧v=undef))∧C8 G' w' ob' (wrm m r.wr)∧
  (∀av,r.val=some av→Rel G' w' ob' av v)∧C3 ob ob'∧Fr G w ob G' w' ob'
theorem C2.quiet {s:Sem Next}{av:AV}{v:Value}(hs:C8 G w ob m)(h:s.run P w= .ok (.value v) w)(hr:Rel G w ob av v):C2 P G w ob m s ⟨some av,[]⟩:=⟨G,w,ob,v, .inl h,hs,fun _ e=>by injection e with e;exact e▸hr,C3.refl ob,Fr.refl G w ob⟩
theorem Fr.of_heap {w':World}{ob':Place}(hsz:w.heap.size≤w'.heap.size)(hsame: ∀b,b<w.heap.size→(G b∨ ¬N9 ob b)→w'.heap[b]? =w.heap[b]?)
  (hb: ∀b,N9 ob' b→N9 ob b∨w.heap.size≤b)(ho:w'.os=w.os)(ht:w'.tape=w.tape)(hu:w'.output=w.output)(hd:w.drawn≤w'.drawn:=by first |exact Nat.le_refl _ |exact Nat.le_succ _ |simp[World.drew]):Fr G w ob G w' ob':=
 ⟨hsz,hsame,hb,fun _ h=>h,fun _ h=> .inl h,ho,ht,hu,hd⟩
theorem C2.new {s:Sem Next}{id:Nat}{o:A8}{i:H4}{av:AV}{v:Value}{x:Obj}{w0:World}(hs:C8 G w ob m)(hid:m id=none)
  (hw0:w0.heap=w.heap)(hos:w0.os=w.os)(ht:w0.tape=w.tape)(hu:w0.output=w.output)
  (h:s.run P w= .ok (.value v) (w0.alloc x))(hb: ∀b,i.blk=some b→b=w.heap.size)
  (ho:K0 G (w0.alloc x) (upd ob id (some i)) i o)(hr:Rel G (w0.alloc x) (upd ob id (some i)) av v)(hP:o.isP=false:=by rfl)(hd:w.drawn≤w0.drawn:=by first |exact Nat.le_refl _ |exact Nat.le_succ _ |simp[World.drew]):C2 P G w ob m s ⟨some av,[(id,o)]⟩:=by
 have hsz:(w0.alloc x).heap.size=w.heap.size+1:=by simp[hw0]
 have hold: ∀b,b<w.heap.size→(w0.alloc x).heap[b]? =w.heap[b]? :=fun b hb=>by rw[heap_alloc_old _ _ _ (by rw[hw0];exact hb),hw0]
 have hno:ob id=none:=(hs.dom id).1 hid;obtain⟨h1,h2,h3⟩:=hs.update (w':=w0.alloc x) id o i (by omega) (fun b hb _=>hold b hb) (fun j hj=>by rw[hno]at hj;cases hj)
  (fun b hbb=> .inr (by rw[hb b hbb];exact Nat.le_refl _)) (fun j hj=>by rw[hno]at hj;cases hj) ho (fun _ b hbb hG=>by have:=hs.lt b hG;rw[hb b hbb]at this;omega) (fun o0 h0=>by rw[hid]at h0;cases h0) hP
 exact⟨G,w0.alloc x,_,v, .inl h,h1,fun _ e=>by injection e with e;exact e▸hr,h2,
  Fr.of_heap (by omega) (fun b hb _=>hold b hb) h3 hos ht hu hd⟩
end
end Go.Abs
end
section
namespace Go.Abs
def L7(P:Program)(t:TypeId):Option Bool:=
 match P.underlying t with
 |some (.struct _) |some (.array _ _)=>some true
 |some _=>some false
 |none=>none
def P4(P:Program)(t:TypeId):Option Nat:=(P.info? t).map (·.size)
section
variable {P:Program} {G:Nat→Prop} {w:World} {ob:Place} {m:Nat→Option A8}
theorem T6 {t:TypeId}{b:Bool}(h:L7 P t=some b):(isAgg t).run P w= .ok b w:=by
 unfold L7 at h;unfold isAgg;cases hu:P.underlying t with
 |none=>simp[hu]at h
 |some d=>cases d <;> simp[hu]at h <;> subst h <;> simp[run_underlying hu]
theorem O8 {t:TypeId}{n:Nat}(h:P4 P t=some n):(sizeOf t).run P w= .ok n w:=by unfold P4 at h;rw[Option.map_eq_some_iff]at h;obtain⟨i,hi,rfl⟩:=h;simp[sizeOf,typeInfo,hi]
def A6a(G:Nat→Prop)(w:World)(ob:Place)(b off:Nat)(cs:List AV):Prop:=∀(j:Nat) (av:AV),cs[j]? =some av→av.one=true∧ ∃u,w.cell? ⟨b,off+j,none⟩=some u∧Rel G w ob av u
theorem A6a.drop {b off:Nat}{cs:List AV}(h:A6a G w ob b off cs)(n:Nat):A6a G w ob b (off+n) (cs.drop n):=fun j av hj=>by rw[List.getElem?_drop]at hj;have:=h (n+j) av hj;rwa[←Nat.add_assoc]at this
theorem A62 {av:AV}(h:av.pure=true):av.one=true:=by cases av <;> simp_all [AV.pure,AV.one]
theorem C8r {id k o tot:Nat}{v:Value}{p:Prop}{cs:List AV}(hs:C8 G w ob m)(hr:Rel G w ob (.ptr id k o tot) v)
  (hc:cellsOf m id k tot=some (p,cs))(hp:p): ∃b base,v= .pointer (some ⟨b,base+o,none⟩)∧A6a G w ob b base cs:=by
 unfold cellsOf at hc;cases hr with
 |ptr a i h hle hv=>
  cases hm:m id with
  |none=>simp[hm]at hc
  |some obj=>
   have ho:=hs.own id obj i hm h;rw[hm]at hc;cases obj with
   |box cs'=>simp only[Option.some.injEq,Prod.mk.injEq]at hc;obtain⟨rfl,rfl⟩:=hc;obtain⟨rfl,rfl⟩:=hp;obtain⟨_,h1,h2,b,arr,T,h3,h4,h5,h6⟩:=ho;obtain⟨b',h7,h8,_⟩:=hv h1;rw[h3]at h7;injection h7 with h7;subst h7;refine⟨b,0,by rw[h8];simp,fun j av hj=> ?_⟩;obtain⟨ho,u,hu,hr⟩:=h6 j av hj;exact⟨ho,u,by rw[Nat.zero_add,cell_of_row w b j arr T _ h4];exact hu,hr⟩
   |arr z s=>
    simp only[Option.some.injEq,Prod.mk.injEq]at hc;obtain⟨rfl,rfl⟩:=hc;obtain⟨_,_,h1,h2,h3⟩:=ho;obtain⟨b',h7,h8,h9⟩:=hv (by rw[h1,hp]);rcases h3 with⟨h3,_⟩ |⟨b,arr,T,h3,h4,h5,h6⟩
    ·rw[h3]at h7;cases h7
    ·rw[h3]at h7;injection h7 with h7;subst h7;refine⟨b,k*i.esz,by rw[h8],fun j av hj=> ?_⟩;obtain⟨hp,u,hu,hr⟩:=h6.2 k j av (by omega) hj;exact⟨A62 hp,u,by rw[cell_of_row w b _ arr T _ h4];exact hu,hr⟩
   |frz z s=>
    simp only[Option.some.injEq,Prod.mk.injEq]at hc;obtain⟨rfl,rfl⟩:=hc;obtain⟨_,_,h1,h2,h3⟩:=ho;obtain⟨b',h7,h8,h9⟩:=hv (by rw[h1,hp]);rcases h3 with⟨h3,_⟩ |⟨b,arr,T,fz,h3,_,h4,h6⟩
    ·rw[h3]at h7;cases h7
    ·rw[h3]at h7;injection h7 with h7;subst h7;refine⟨b,k*i.esz,by rw[h8],fun j av hj=> ?_⟩;obtain⟨hp,u,hu,hr⟩:=h6.2 k j av (by omega) hj;exact⟨A62 hp,u,by rw[cell_of_row w b _ arr T _ h4];exact hu,hr⟩
   |frzb cs'=>simp only[Option.some.injEq,Prod.mk.injEq]at hc;obtain⟨rfl,rfl⟩:=hc;obtain⟨rfl,rfl⟩:=hp;obtain⟨_,h1,h2,b,arr,T,fz,h3,hg,h4,h5,h6⟩:=ho;obtain⟨b',h7,h8,_⟩:=hv h1;rw[h3]at h7;injection h7 with h7;subst h7;refine⟨b,0,by rw[h8];simp,fun j av hj=> ?_⟩;obtain⟨ho,u,hu,hr⟩:=h6 j av hj;exact⟨A62 ho,u,by rw[Nat.zero_add,cell_of_row w b j arr T _ h4];exact hu,hr⟩
   |map k es=>simp at hc
   |mapS k es=>simp at hc
   |arrP z s=>simp at hc
   |gone=>simp at hc
theorem B09 {cs:List AV}{v:Value}(hr:Rel G w ob (.fptr cs) v): ∃b off,v= .pointer (some ⟨b,off,none⟩)∧G b∧A6a G w ob b off cs:=by
 cases hr with
 |fptr b off c hG hp hc hr=>
  refine⟨b,off,rfl,hG,fun j av hj=>⟨A62 (hp j av hj),c j,hc j ?_,hr j av hj⟩⟩;rcases Nat.lt_or_ge j cs.length with h |h
  ·exact h
  ·rw[List.getElem?_eq_none h]at hj;cases hj
theorem V9(b o n:Nat):(⟨b,o,none⟩:Addr).add n=⟨b,o+n,none⟩:=by unfold Addr.add;split <;> simp_all
theorem A3h {t:TypeId}{n:Option Nat}{b off:Nat}{cs:List AV}{av:AV}
  (ht:(match n with |none=>L7 P t=some false |some k=>L7 P t=some true∧P4 P t=some k))
  (hc:A6a G w ob b off cs)(hk:A53 n cs=some av): ∃v,(loadVar t ⟨b,off,none⟩).run P w= .ok v w∧Rel G w ob av v:=by
 cases n with
 |none=>
  cases cs with
  |nil=>simp[A53]at hk
  |cons c cs=>simp only[A53,Option.some.injEq]at hk;subst hk;obtain⟨_,u,hu,hr⟩:=hc 0 c (by simp);refine⟨u,?_,hr⟩;simp only[Nat.add_zero]at hu;simp[loadVar,T6 ht,hu]
 |some k=>
  obtain⟨h1,h2⟩:=ht;simp only[A53,Option.map_eq_some_iff]at hk;obtain⟨r,hr,rfl⟩:=hk;obtain⟨rfl,hl⟩:=B6a k cs r hr;have hf: ∀j,j<k→ ∃u,w.cell? ⟨b,off+j,none⟩=some u∧ ∀av,cs[j]? =some av→av.one=true∧Rel G w ob av u:=fun j hj=>by
   have hjl:j<cs.length:=by omega
   obtain⟨h1,u,hu,h3⟩:=hc j cs[j] (List.getElem?_eq_getElem hjl);exact⟨u,hu,fun av hav=>by rw[List.getElem?_eq_getElem hjl]at hav;injection hav with hav;subst hav;exact⟨h1,h3⟩⟩
  let f:Nat→Value:=fun j=>(w.cell? ⟨b,off+j,none⟩).getD undef
  have hrun:=run_loadCells (P:=P) w ⟨b,off,none⟩ k f (fun j hj=>by rw[V9];obtain⟨u,hu,_⟩:=hf j hj;simp[f,hu]);refine⟨.agg ((List.range k).map f).toArray,?_,?_⟩
  ·simp[loadVar,T6 h1,O8 h2,hrun]
  ·refine .agg _ (by simp;omega) (fun j av hj=> ?_) (fun j av hj=> ?_)
   all_goals
    have hjk:j<k:=by
     rcases Nat.lt_or_ge j k with h |h
     ·exact h
     ·rw[List.getElem?_eq_none (by simp;omega)]at hj;cases hj
    obtain⟨u,hu,h3⟩:=hf j hjk;have hj':cs[j]? =some av:=by rw[List.getElem?_take]at hj;simpa[hjk]using hj
   ·exact(h3 av hj').1
   ·have:(((List.range k).map f).toArray).getD j undef=u:=by simp[hjk,f,hu]
    rw[this];exact(h3 av hj').2
theorem H4.has_priv {i:H4}{p:Nat→Prop}(hk:i.kind= .priv p)(b:Nat):i.has b↔i.blk=some b∨p b:=by unfold H4.has H4.pv;rw[hk]
structure PAt (G:Nat→Prop) (w:World) (ob:Place) (id z:Nat) (s:Sq) (i:H4) (p:Nat→Prop) (b:Nat) (arr:Array Value) (T:TypeId) (β:Nat→Nat→Option Nat):Prop where
 hi:ob id=some i
 kind:i.kind= .priv p
 esz:i.esz=z
 len:i.len=s.n
 cap:s.n≤i.cap
 blk:i.blk=some b
 heap:w.heap[b]? =some (.cells arr T (0,0))
 size:arr.size=i.cap*z
 row:A3u G w ob arr z s β
 bl:B5j b s.n z p β
theorem B2m {id k o tot z:Nat}{s:Sq}{v:Value}(hs:C8 G w ob m)(hm:m id=some (.arrP z s))(hr:Rel G w ob (.ptr id k o tot) v)(ht:tot=s.n):
  ∃i p b arr T β,PAt G w ob id z s i p b arr T β∧v= .pointer (some ⟨b,k*z+o,none⟩)∧k<s.n:=by
 cases hr with
 |ptr a i h hle hv=>
  obtain⟨h00,h1,h2,p,hk,h3⟩:=hs.own id _ i hm h;obtain⟨b',h7,h8,h9⟩:=hv (by rw[h1,ht]);rcases h3 with⟨h3,_⟩ |⟨b,arr,T,β,h3,h4,h5,h6,h10⟩
  ·rw[h3]at h7;cases h7
  ·rw[h3]at h7;injection h7 with h7;subst h7;subst h00;exact⟨i,p,b,arr,T,β,⟨h,hk,rfl,h1,h2,h3,h4,h5,h6,h10⟩,by rw[h8],by omega⟩
theorem getElem?_splice1 {cs:List AV}{o:Nat}{c:AV}(ho:o<cs.length)(j:Nat):(M3 cs o [c])[j]? =if j=o then some c else cs[j]? :=by
 rw[A9t _ _ _ (by omega),List.append_assoc,List.getElem?_append];simp only[List.length_take,List.length_singleton];by_cases h1:j<o
 ·rw[if_pos (by omega),if_neg (by omega),List.getElem?_take,if_pos h1]
 ·rw[if_neg (by omega),List.getElem?_append];by_cases h2:j=o
  ·subst h2;rw[if_pos (by simp;omega),if_pos rfl,Nat.min_eq_left (by omega)];simp
  ·rw[if_neg (by simp;omega),if_neg h2,List.getElem?_drop];congr 1;simp;omega
theorem C8.moveOut {id nd k o z z' n':Nat}{s:Sq}{g':Nat→List AV}{i:H4}{p:Nat→Prop}{b:Nat}{arr:Array Value}{T:TypeId}{β:Nat→Nat→Option Nat}{u:Value}
  (hs:C8 G w ob m)(hm:m id=some (.arrP z s))(hnd:m nd=none)(h:PAt G w ob id z s i p b arr T β)(hk:k<s.n)(hc:(s.g k)[o]? =some (.own z' n' g'))(hu:arr[k*z+o]? =some u):
  ∃ob',C8 G w ob' (upd (upd m id (some (.arrP z (s.set k (M3 (s.g k) o [.hole]))))) nd (some (.arr z' ⟨n',g'⟩)))∧Rel G w ob' (.sl nd 0 n' n') u∧C3 ob ob'∧ ∀b,N9 ob' b→N9 ob b:=by
 obtain rfl:i.esz=z:=h.esz;have hne:id≠nd:=fun e=>by rw[e,hnd]at hm;cases hm
 have hno:ob nd=none:=(hs.dom nd).1 hnd
 have hlen:(s.g k).length=i.esz:=h.row.1 k hk
 have ho:o<(s.g k).length:=by
  rcases Nat.lt_or_ge o (s.g k).length with h |h
  ·exact h
  ·rw[List.getElem?_eq_none h]at hc;cases hc
 obtain⟨u',hu',hcell⟩:=h.row.2 k o _ hk hc;rw[hu]at hu';injection hu' with hu';subst hu';have hcap: ∃cap',n'≤cap'∧(∀ob',C3 ob ob'→K0 G w ob' ⟨β k o,z',n',cap', .cells⟩ (.arr z' ⟨n',g'⟩))∧(∃a c,u= .slice a n' c)∧SlV ⟨β k o,z',n',cap', .cells⟩ 0 n' u:=by
  rcases hcell with⟨hβ,rfl,hv⟩ |⟨b2,cap',arr2,T2,hβ,h1,rfl,h2,h3,h4⟩
  ·refine⟨0,Nat.le_refl _,fun ob' hob=>⟨rfl,rfl,rfl,Nat.le_refl _, .inl ⟨hβ,rfl,rfl⟩⟩,?_,Nat.le_refl _,fun _=>hv,fun b hb=> ?_⟩
   ·rcases hv with rfl |⟨a,rfl⟩
    ·exact⟨_,_,rfl⟩
    ·exact⟨_,_,rfl⟩
   ·simp only at hb;rw[hβ]at hb;cases hb
  ·refine⟨cap',h1,fun ob' hob=>⟨rfl,rfl,rfl,h1, .inr ⟨b2,arr2,T2,hβ,h2,h3,h4.ext (fun _ h=>h) (fun _ _=>rfl) hob⟩⟩,⟨_,_,rfl⟩,by simp,fun hb=> ?_,fun b' hb'=> ?_⟩
   ·simp only at hb;rw[hβ]at hb;cases hb
   ·simp only at hb';rw[hβ]at hb';injection hb' with hb';subst hb';exact⟨0,cap',rfl,h1,fun _=>by simp,fun _=>⟨rfl,rfl⟩⟩
 obtain⟨cap',hc1,hc2,hc3,hc4⟩:=hcap;have hone:u.oneCell'=true:=by obtain⟨a,c,rfl⟩:=hc3;rfl
 have hi1: ∀x,({i with kind:= .priv fun x=>p x∧β k o≠some x}:H4).has x↔i.blk=some x∨(p x∧β k o≠some x):=fun x=>Iff.rfl
 have hp: ∀x,i.has x↔i.blk=some x∨p x:=fun x=>H4.has_priv h.kind x
 have hi2: ∀x,(⟨β k o,z',n',cap', .cells⟩:H4).has x→β k o=some x:=fun x hx=>H4.has_plain (.inl rfl) hx
 have hob:C3 ob (upd (upd ob id (some {i with kind:= .priv fun x=>p x∧β k o≠some x})) nd (some ⟨β k o,z',n',cap', .cells⟩)):=fun q j hj=>by
  by_cases hq:q=nd
  ·subst hq;rw[hno]at hj;cases hj
  ·rw[E8 hq];by_cases hq2:q=id
   ·subst hq2;rw[h.hi]at hj;injection hj with hj;subst hj;exact⟨_,by simp;rfl, .inr (.inl ⟨p,_,h.kind,rfl⟩)⟩
   ·exact⟨j,by rw[E8 hq2];exact hj, .inl rfl⟩
 obtain⟨a1,a2,a3⟩:=hs.update2 (w':=w) id nd hne (.arrP i.esz (s.set k (M3 (s.g k) o [.hole]))) (.arr z' ⟨n',g'⟩) {i with kind:= .priv fun x=>p x∧β k o≠some x} ⟨β k o,z',n',cap', .cells⟩
  (Nat.le_refl _) (fun _ _ _ _=>rfl) (fun _ _=>rfl) (fun j hj=>by rw[h.hi]at hj;injection hj with hj;subst hj;exact .inr (.inl ⟨p,_,h.kind,rfl⟩)) (fun j hj=>by rw[hno]at hj;cases hj)
  (fun x hx=> .inl ⟨i,h.hi,(hp x).2 (((hi1 x).1 hx).imp (fun h=>h) (·.1))⟩) (fun x hx=> .inl ⟨i,h.hi,(hp x).2 (.inr (h.bl.sub k o x hk (by omega) (hi2 x hx)))⟩)
  (fun x h1 h2=>by
    have h2:=hi2 x h2;rcases(hi1 x).1 h1 with h1 |⟨_,h1⟩
    ·rw[h.blk]at h1;injection h1 with h1;subst h1;exact h.bl.ne (h.bl.sub k o _ hk (by omega) h2)
    ·exact h1 h2)
  (by
    refine⟨h.esz,h.len,h.cap,_,rfl, .inr ⟨b,arr,T,fun q j=>if q=k∧j=o then none else β q j,h.blk,h.heap,h.size,?_,?_⟩⟩
    ·refine⟨fun q hq=> ?_,fun q j av hq hj=> ?_⟩
     ·simp only[Sq.set];split
      ·rw[←hlen,A9t _ _ _ (by omega)];simp;omega
      ·exact h.row.1 q hq
     ·simp only[Sq.set]at hj hq;split at hj
      ·rename_i hqk;subst hqk;rw[getElem?_splice1 ho]at hj;split at hj
       ·rename_i hjo;subst hjo;injection hj with hj;subst hj;exact⟨u,hu,hone,by simp⟩
       ·rename_i hjo;obtain⟨v,hv,hcl⟩:=h.row.2 q j av hq hj;refine⟨v,hv,?_⟩;simp only[hjo,and_false,if_false];exact hcl.ext (fun _ h=>h) (fun _ _=>rfl) hob (fun _ _=>rfl)
      ·rename_i hqk;obtain⟨v,hv,hcl⟩:=h.row.2 q j av hq hj;refine⟨v,hv,?_⟩;simp only[hqk,false_and,if_false];exact hcl.ext (fun _ h=>h) (fun _ _=>rfl) hob (fun _ _=>rfl)
    ·refine⟨fun q j x hq hj hx=> ?_,fun x hx=> ?_,fun q j q' j' x hq hj hq' hj' hx hx'=> ?_,fun hx=>h.bl.ne hx.1⟩
     ·split at hx
      ·cases hx
      ·rename_i hne2;exact⟨h.bl.sub q j x hq hj hx,fun e=>hne2 (h.bl.inj q j k o x hq hj hk (by omega) hx e)⟩
     ·obtain⟨q,j,hq,hj,hx2⟩:=h.bl.all x hx.1;refine⟨q,j,hq,hj,?_⟩;rw[if_neg]
      ·exact hx2
      ·rintro⟨rfl,rfl⟩;exact hx.2 hx2
     ·split at hx
      ·cases hx
      ·split at hx'
       ·cases hx'
       ·exact h.bl.inj q j q' j' x hq hj hq' hj' hx hx')
  (hc2 _ hob)
  (fun how x hx=>hs.sep id _ i x hm rfl h.hi ((hp x).2 (((hi1 x).1 hx).imp (fun h=>h) (·.1))))
  (fun how x hx=>hs.sep id _ i x hm rfl h.hi ((hp x).2 (.inr (h.bl.sub k o x hk (by omega) (hi2 x hx)))))
 exact⟨_,a1, .sl _ (by simp) (Nat.le_refl _) hc3 fun _=>hc4,a2,a3⟩
theorem E1b {t:TypeId}{n:Option Nat}{ρx:Value}{p:Prop}{r:Res}{id k o tot z d:Nat}{s:Sq}
  (ht:(match n with |none=>L7 P t=some false |some k=>L7 P t=some true∧P4 P t=some k))
  (hs:C8 G w ob m)(hm:m id=some (.arrP z s))(hr:Rel G w ob (.ptr id k o tot) ρx)(hv:A55 m d id k o tot z s n ((s.g k).drop o)=some (p,r))(hp:p):
  C2 P G w ob m (do pure (.value (←Instr.loadAt t ρx))) r:=by
 cases hd:(s.g k).drop o with
 |nil=>rw[hd]at hv;simp[A55]at hv
 |cons c cs=>
  rw[hd]at hv;have hget:(s.g k)[o]? =some c:=by have:=congrArg (·[0]?) hd;simpa[List.getElem?_drop]using this
  have run: ∀(b:Nat) (arr:Array Value) (T:TypeId) (u:Value),n=none→w.heap[b]? =some (.cells arr T (0,0))→arr[k*z+o]? =some u→(loadVar t ⟨b,k*z+o,none⟩).run P w= .ok u w:=fun b arr T u hn hh hu=>by
   subst hn;have:w.cell? ⟨b,k*z+o,none⟩=some u:=by rw[cell_of_row w b _ arr T _ hh];exact hu
   simp[loadVar,T6 ht,this]
  by_cases hown: ∃z' n' g',c= .own z' n' g'
  ·obtain⟨z',n',g',rfl⟩:=hown;simp only[A55]at hv;split at hv
   case h_2=>cases hv
   rename_i hn hnd;simp only[Option.some.injEq,Prod.mk.injEq]at hv;obtain⟨rfl,rfl⟩:=hv;obtain⟨ht',_⟩:=hp;obtain⟨i,pp,b,arr,T,β,hA,rfl,hk⟩:=B2m hs hm hr ht';obtain⟨u,hu,_⟩:=hA.row.2 k o _ hk hget;obtain⟨ob',b1,b2,b3,b4⟩:=hs.moveOut hm hnd hA hk hget hu;refine⟨G,w,ob',u, .inl ?_,b1,fun av hav=> ?_,b3,Fr.of_heap (Nat.le_refl _) (fun _ _ _=>rfl) (fun b hb=> .inl (b4 b hb)) rfl rfl rfl⟩
   ·simp[Instr.loadAt,Instr.sureAddr,run b arr T u rfl hA.heap hu]
   ·injection hav with hav;subst hav;exact b2
  ·have h2:c≠ .hole∧n=none∧p=(tot=s.n∧o<z)∧r=⟨some c,[]⟩:=by
    cases c with
    |own z' n' g'=>exact absurd ⟨z',n',g',rfl⟩ hown
    |hole=>simp[A55]at hv
    |_=>
     simp only[A55]at hv;split at hv
     ·simp only[Option.some.injEq,Prod.mk.injEq]at hv;exact⟨by simp,rfl,hv.1.symm,hv.2.symm⟩
     ·cases hv
   obtain⟨hne,rfl,rfl,rfl⟩:=h2;obtain⟨ht',_⟩:=hp;obtain⟨i,pp,b,arr,T,β,hA,rfl,hk⟩:=B2m hs hm hr ht';obtain⟨u,hu,hcell⟩:=hA.row.2 k o _ hk hget;have hrel:Rel G w ob c u:=by
    cases c with
    |own z' n' g'=>exact absurd ⟨z',n',g',rfl⟩ hown
    |hole=>exact absurd rfl hne
    |_=>exact hcell.2.2
   refine C2.quiet hs (v:=u) ?_ hrel;simp[Instr.loadAt,Instr.sureAddr,run b arr T u rfl hA.heap hu]
theorem D6h {n:Option Nat}{ρx:Value}{p:Prop}{v:AV}{id k o tot z d:Nat}{s:Sq}
  (hs:C8 G w ob m)(hm:m id=some (.arrP z s))(hr:Rel G w ob (.ptr id k o tot) ρx)(hv:A55 m d id k o tot z s n ((s.g k).drop o)=some (p,⟨some v,[]⟩))(hp:p):
  n=none∧ ∃b off u,ρx= .pointer (some ⟨b,off,none⟩)∧w.cell? ⟨b,off,none⟩=some u∧Rel G w ob v u:=by
 cases hd:(s.g k).drop o with
 |nil=>rw[hd]at hv;simp[A55]at hv
 |cons c cs=>
  rw[hd]at hv;have hget:(s.g k)[o]? =some c:=by have:=congrArg (·[0]?) hd;simpa[List.getElem?_drop]using this
  have h2:(∀z' n' g',c≠ .own z' n' g')∧c≠ .hole∧n=none∧p=(tot=s.n∧o<z)∧v=c:=by
   cases c with
   |own z' n' g'=>simp only[A55]at hv;split at hv <;> simp at hv
   |hole=>simp[A55]at hv
   |_=>
    simp only[A55]at hv;split at hv
    ·simp only[Option.some.injEq,Prod.mk.injEq,Res.mk.injEq]at hv;exact⟨by simp,by simp,rfl,hv.1.symm,hv.2.1.symm⟩
    ·cases hv
  obtain⟨hno,hne,rfl,rfl,rfl⟩:=h2;obtain⟨ht',_⟩:=hp;obtain⟨i,pp,b,arr,T,β,hA,rfl,hk⟩:=B2m hs hm hr ht';obtain⟨u,hu,hcell⟩:=hA.row.2 k o _ hk hget;refine⟨rfl,b,_,u,rfl,by rw[cell_of_row w b _ arr T _ hA.heap];exact hu,?_⟩;cases v with
  |own z' n' g'=>exact absurd rfl (hno z' n' g')
  |hole=>exact absurd rfl hne
  |_=>exact hcell.2.2
theorem E38 {t:TypeId}{n:Option Nat}{ρ:Operand→Value}{e:AX→Option AV}{x:Operand}{ax:AX}{p:Prop}{r:Res}{d:Nat}
  (ht:(match n with |none=>L7 P t=some false |some k=>L7 P t=some true∧P4 P t=some k))
  (hs:C8 G w ob m)(hx:cx x=some ax)(he:I8 G w ob ρ e)(hv:eval (.load n ax) e m d=some (p,r))(hp:p):
  C2 P G w ob m (do pure (.value (←Instr.loadAt t (ρ x)))) r:=by
 simp only[eval]at hv;cases hax:e ax with
 |none=>simp[hax]at hv
 |some a=>
  have hr:=he x ax a hx hax;rw[hax]at hv;cases a with
  |fptr cs=>simp only[Option.map_eq_some_iff,Prod.mk.injEq]at hv;obtain⟨av,hk,_,rfl⟩:=hv;obtain⟨b,off,hvv,_,hc⟩:=B09 hr;obtain⟨v,hrun,hrel⟩:=A3h (P:=P) ht hc hk;refine C2.quiet hs (v:=v) ?_ hrel;simp[Instr.loadAt,hvv,Instr.sureAddr,hrun]
  |ptr id k o tot=>
   simp only at hv;have hcases:(∃z s,m id=some (.arrP z s))∨(∀z s,m id≠some (.arrP z s)):=by
    by_cases h: ∃z s,m id=some (.arrP z s)
    ·exact .inl h
    ·exact .inr fun z s e=>h ⟨z,s,e⟩
   rcases hcases with⟨z,s,hm⟩ |hnm
   ·rw[hm]at hv;exact E1b ht hs hm hr hv hp
   replace hv:(match cellsOf m id k tot with
    |some (p,cs)=>(A53 n (cs.drop o)).map fun v=>(p,(⟨some v,[]⟩:Res))
    |none=>none)=some (p,r):=by
    split at hv
    ·rename_i z s hm;exact absurd hm (hnm z s)
    ·exact hv
   cases hco:cellsOf m id k tot with
   |none=>simp[hco]at hv
   |some pc=>obtain⟨p',cs⟩:=pc;simp only[hco,Option.map_eq_some_iff,Prod.mk.injEq]at hv;obtain⟨av,hk,rfl,rfl⟩:=hv;obtain⟨b,base,hvv,hc⟩:=C8r hs hr hco hp;obtain⟨v,hrun,hrel⟩:=A3h (P:=P) ht (hc.drop o) hk;refine C2.quiet hs (v:=v) ?_ hrel;simp[Instr.loadAt,hvv,Instr.sureAddr,hrun]
  |_=>simp at hv
theorem D9q {ρ:Operand→Value}{e:AX→Option AV}{x:Operand}{ax:AX}{p:Prop}{r:Res}{d:Nat}
  (hs:C8 G w ob m)(hx:cx x=some ax)(he:I8 G w ob ρ e)(hv:eval (.mov ax) e m d=some (p,r)):
  C2 P G w ob m (pure (.value (ρ x))) r:=by
 simp only[eval]at hv;cases hax:e ax with
 |none=>simp[hax]at hv
 |some a=>simp only[hax,Option.some.injEq,Prod.mk.injEq]at hv;obtain⟨_,rfl⟩:=hv;exact C2.quiet hs (by simp) (he x ax a hx hax)
theorem Rel.sc_eq {u v:Value}(h:Rel G w ob (.sc u) v):v=u:=by cases h;rfl
theorem Rel.ofInt(k:IntKind)(n:Int):Rel G w ob (.sc (.int k n)) (.int k n):= .sc rfl
theorem E1l {op:BinOp}{a b av:AV}{p:Prop}{x y:Value}(t:TypeId)(h:A8j op a b=some (p,av))(hp:p)(ha:Rel G w ob a x)(hb:Rel G w ob b y):
  ∃v,(binOp op t x y).run P w= .ok v w∧Rel G w ob av v∧(∃k n k' n',x= .int k n∧y= .int k' n'):=by
 cases a with
 |sc u=>
  cases b with
  |sc u'=>
   obtain rfl:=ha.sc_eq;obtain rfl:=hb.sc_eq;cases x with
   |int k n=>
    cases y with
    |int k' n'=>
     cases op <;> simp only[A8j]at h <;> try(simp at h;done)
     all_goals first
      |(simp only[Option.some.injEq,Prod.mk.injEq]at h
        obtain⟨rfl,rfl⟩:=h;have h0: ¬n'<0:=by omega
        refine⟨_,?_, .sc rfl,_,_,_,_,rfl,rfl⟩;simp[binOp,Op.shift,h0];done)
      |(by_cases hk:k=k'
        ·subst hk;simp only[if_true,Option.some.injEq,Prod.mk.injEq]at h;obtain⟨rfl,rfl⟩:=h;refine⟨_,?_, .sc rfl,_,_,_,_,rfl,rfl⟩
         first
          |(simp[binOp,Op.intArith];done)
          |(simp[binOp,Op.intCmp];done)
          |(simp[binOp,Op.intBits];done)
          |(have hq:=hp;simp[binOp,Op.intDiv,hq];done)
        ·simp[hk]at h)
    |_=>cases op <;> simp[A8j]at h
   |_=>cases op <;> simp[A8j]at h
  |_=>cases op <;> simp[A8j]at h
 |_=>cases op <;> simp[A8j]at h
theorem E3i {op:UnOp}{a av:AV}{x:Value}(h:D0m op a=some av)(ha:Rel G w ob a x):
  ∃v,(Op.unary op x).run P w= .ok v w∧Rel G w ob av v:=by
 cases a with
 |sc u=>
  obtain rfl:=ha.sc_eq;cases op <;> cases x <;> simp only[D0m]at h <;> try(simp at h;done)
  all_goals
   simp only[Option.some.injEq]at h;subst h;exact⟨_,by simp[Op.unary,Op.intArith,Op.intBits], .sc rfl⟩
 |_=>cases op <;> simp[D0m]at h
end
end Go.Abs
end
section
namespace Go.Abs
section
variable {P:Program} {G:Nat→Prop} {w:World} {ob:Place} {m:Nat→Option A8}
theorem F11 {op:UnOp}{ρ:Operand→Value}{e:AX→Option AV}{x:Operand}{ax:AX}{p:Prop}{r:Res}{d:Nat}
  (hs:C8 G w ob m)(hx:cx x=some ax)(he:I8 G w ob ρ e)(hv:eval (.un op ax) e m d=some (p,r)):
  C2 P G w ob m (do pure (.value (←Op.unary op (ρ x)))) r:=by
 simp only[eval]at hv;cases hax:e ax with
 |none=>simp[hax]at hv
 |some a=>simp only[hax,Option.map_eq_some_iff,Prod.mk.injEq]at hv;obtain⟨av,hk,_,rfl⟩:=hv;obtain⟨v,hrun,hrel⟩:=E3i (P:=P) hk (he x ax a hx hax);exact C2.quiet hs (v:=v) (by simp[hrun]) hrel
theorem E6g {op:BinOp}{t:TypeId}{ρ:Operand→Value}{e:AX→Option AV}{x y:Operand}{ax ay:AX}{p:Prop}{r:Res}{d:Nat}
  (hs:C8 G w ob m)(hx:cx x=some ax)(hy:cx y=some ay)(he:I8 G w ob ρ e)(hv:eval (.bin op ax ay) e m d=some (p,r))(hp:p):
  C2 P G w ob m (do pure (.value (←(do eqGuard op t x y (ρ x) (ρ y);binOp op t (ρ x) (ρ y))))) r:=by
 simp only[eval]at hv;cases hax:e ax with
 |none=>simp[hax]at hv
 |some a=>
  cases hay:e ay with
  |none=>simp[hax,hay]at hv
  |some b=>
   simp only[hax,hay,Option.map_eq_some_iff,Prod.mk.injEq]at hv;obtain⟨⟨p',av⟩,hk,rfl,rfl⟩:=hv;obtain⟨v,hrun,hrel,k,n,k',n',h1,h2⟩:=E1l (P:=P) t hk hp (he x ax a hx hax) (he y ay b hy hay);refine C2.quiet hs (v:=v) ?_ hrel;have hg:(eqGuard op t x y (ρ x) (ρ y)).run P w= .ok () w:=by rw[h1,h2];unfold eqGuard;cases op <;> simp
   simp[hg,hrun]
theorem E1u {k:IntKind}{src dst:TypeId}{ρ:Operand→Value}{e:AX→Option AV}{x:Operand}{ax:AX}{p:Prop}{r:Res}{d:Nat}
  (ht:P.underlying dst=some (.int k))(hsr: ∃ds,P.underlying src=some ds)
  (hs:C8 G w ob m)(hx:cx x=some ax)(he:I8 G w ob ρ e)(hv:eval (.convI k ax) e m d=some (p,r)):
  C2 P G w ob m (do pure (.value (←convert src dst (ρ x)))) r:=by
 simp only[eval]at hv;obtain⟨ds,hds⟩:=hsr;cases hax:e ax with
 |none=>simp[hax]at hv
 |some a=>
  have hr:=he x ax a hx hax;rw[hax]at hv;cases a with
  |sc u=>
   cases u with
   |int k' n=>simp only[Option.some.injEq,Prod.mk.injEq]at hv;obtain⟨_,rfl⟩:=hv;rw[hr.sc_eq];refine C2.quiet hs (v:= .int k (k.wrap n)) ?_ (.sc rfl);simp[convert,run_underlying ht,run_underlying hds,Conv.intToInt]
   |_=>simp at hv
  |_=>simp at hv
theorem getElem?_drop_lt {α:Type}{l:List α}{n j:Nat}{a:α}(h:(l.drop n)[j]? =some a):l[n+j]? =some a:=by rwa[List.getElem?_drop]at h
theorem E0w {s:TypeId}{f:Nat}{off:Nat}{fields:Array Field}{fd:Field}{ρ:Operand→Value}{e:AX→Option AV}{x:Operand}{ax:AX}{p:Prop}{r:Res}{d:Nat}
  (ht:P.underlying s=some (.struct fields))(hf:fields[f]? =some fd)(hoff:fd.offset=off)(hsz: ∃n,P4 P fd.type=some (n+1))
  (hs:C8 G w ob m)(hx:cx x=some ax)(he:I8 G w ob ρ e)(hv:eval (.faddr off ax) e m d=some (p,r)):
  C2 P G w ob m (do pure (.value (←Instr.fieldAt s (ρ x) f))) r:=by
 simp only[eval]at hv;obtain⟨n,hn⟩:=hsz;have key: ∀a:Addr,(Instr.fieldAt s (.pointer (some a)) f).run P w= .ok (.pointer (some (a.add off))) w:=fun a=>by simp[Instr.fieldAt,run_underlying ht,hf,Instr.sureAddr,fieldPlace,O8 hn,hoff]
 cases hax:e ax with
 |none=>simp[hax]at hv
 |some a=>
  have hr:=he x ax a hx hax;rw[hax]at hv;cases a with
  |fptr cs=>
   simp only[Option.some.injEq,Prod.mk.injEq]at hv;obtain⟨_,rfl⟩:=hv;generalize ρ x=v at hr;cases hr with
   |fptr b o c hG hp hc hrr=>refine C2.quiet hs (v:= .pointer (some ⟨b,o+off,none⟩)) (by simp[key,V9]) ?_;refine .fptr b (o+off) (fun j=>c (off+j)) hG (fun j av hj=>hp _ av (getElem?_drop_lt hj)) (fun j hj=> ?_) (fun j av hj=>hrr _ av (getElem?_drop_lt hj));rw[Nat.add_assoc];exact hc (off+j) (by rw[List.length_drop]at hj;omega)
  |ptr id k o tot=>
   simp only[Option.some.injEq,Prod.mk.injEq]at hv;obtain⟨_,rfl⟩:=hv;generalize ρ x=v at hr;cases hr with
   |ptr a i h hle hvv=>refine C2.quiet hs (v:= .pointer (some (a.add off))) (by simp[key]) ?_;refine .ptr _ i h hle fun hl=> ?_;obtain⟨b,h1,rfl,h3⟩:=hvv hl;exact⟨b,h1,by rw[V9,Nat.add_assoc],h3⟩
  |_=>simp at hv
theorem A9h(k:IntKind)(n:Int):(asIntOf (.int k n)).run P w= .ok (k,n) w:=rfl
theorem E1t {t el:TypeId}{esz:Nat}{ρ:Operand→Value}{e:AX→Option AV}{x y:Operand}{ax ay:AX}{p:Prop}{r:Res}{d:Nat}
  (ht:P.underlying t=some (.slice el))(hz:P4 P el=some esz)
  (hs:C8 G w ob m)(hx:cx x=some ax)(hy:cx y=some ay)(he:I8 G w ob ρ e)(hv:eval (.iaddr esz ax ay) e m d=some (p,r))(hp:p):
  C2 P G w ob m (do pure (.value (←Instr.indexAt t (ρ x) (ρ y)))) r:=by
 have key: ∀(a:Addr) (len cap:Nat) (k:IntKind) (j:Int),0≤j→j<len→(Instr.indexAt t (.slice (some a) len cap) (.int k j)).run P w= .ok (.pointer (some (a.add (j.toNat*esz)))) w:=fun a len cap k j h0 h1=>by simp[Instr.indexAt,A9h,run_underlying ht,h0,h1,O8 hz]
 simp only[eval]at hv;cases hax:e ax with
 |none=>simp[hax]at hv
 |some a=>
  cases hay:e ay with
  |none=>cases a <;> simp[hax,hay]at hv
  |some b=>
   have hr:=he x ax a hx hax
   have hr2:=he y ay b hy hay;rw[hax,hay]at hv;cases b with
   |sc u=>
    cases u with
    |int k j=>
     rw[hr2.sc_eq];cases a with
     |dsl z n g=>
      simp only at hv;split at hv
      ·rename_i hze;subst hze;simp only[Option.some.injEq,Prod.mk.injEq]at hv;obtain⟨rfl,rfl⟩:=hv;obtain⟨h0,h1⟩:=hp;generalize ρ x=v at hr;cases hr with
       |dslNil=>exact absurd h1 (by omega)
       |dslE a cap=>exact absurd h1 (by omega)
       |dsl b off cap c hG hcap hlen hpp hc hrr=>
        have hj:j.toNat<n:=by omega
        refine C2.quiet hs (v:= .pointer (some ⟨b,off+j.toNat*z,none⟩)) (by simp[key _ _ _ _ _ h0 h1,V9]) ?_;refine .fptr b _ (fun q=>c j.toNat q) hG (fun q av hq=>hpp _ q av hj hq) (fun q hq=> ?_) (fun q av hq=>hrr _ q av hj hq);rw[Nat.add_assoc];exact hc _ q hj (by rw[hlen _ hj]at hq;exact hq)
      ·simp at hv
     |dslx z n g=>
      simp only at hv;split at hv
      ·rename_i hze;subst hze;simp only[Option.some.injEq,Prod.mk.injEq]at hv;obtain⟨rfl,rfl⟩:=hv;obtain⟨h0,h1⟩:=hp;generalize ρ x=v at hr;cases hr with
       |dslxNil=>exact absurd h1 (by omega)
       |dslxE a=>exact absurd h1 (by omega)
       |dslx b off c hG hlen hpp hc hrr=>
        have hj:j.toNat<n:=by omega
        refine C2.quiet hs (v:= .pointer (some ⟨b,off+j.toNat*z,none⟩)) (by simp[key _ _ _ _ _ h0 h1,V9]) ?_;refine .fptr b _ (fun q=>c j.toNat q) hG (fun q av hq=>hpp _ q av hj hq) (fun q hq=> ?_) (fun q av hq=>hrr _ q av hj hq);rw[Nat.add_assoc];exact hc _ q hj (by rw[hlen _ hj]at hq;exact hq)
      ·simp at hv
     |sl id off len tot=>
      have main: ∀(z:Nat) (s:Sq) (i:H4),z=esz→tot=s.n∧0≤j∧j<len→ob id=some i→i.esz=z→i.len=s.n→(i.blk=none→s.n=0)→Rel G w ob (.sl id off len tot) (ρ x)→
        C2 P G w ob m (do pure (.value (←Instr.indexAt t (ρ x) (.int k j)))) ⟨some (.ptr id (off+j.toNat) 0 tot),[]⟩:=by
       intro z s i hze hc hi hiz hil hnb hr;obtain⟨ht',h0,h1⟩:=hc;generalize ρ x=v at hr;cases hr with
       |sl i' h' hle hs' hv'=>
        rw[hi]at h';injection h' with h';subst h';obtain⟨h2,_,h3⟩:=hv' (by rw[hil,ht']);cases h4:i.blk with
        |none=>have:=hnb h4;omega
        |some b=>
        obtain⟨o,c,rfl,_,h5,_⟩:=h3 b h4;obtain rfl:=h5 (by omega);refine C2.quiet hs (v:= .pointer (some ⟨b,off*i.esz+j.toNat*esz,none⟩)) (by simp[key _ _ _ _ _ h0 h1,V9]) ?_;refine .ptr _ i hi hle fun _=>⟨b,h4,?_,by omega⟩;rw[Nat.add_mul,hiz,hze,Nat.add_zero]
      simp only at hv;cases hm:m id with
      |none=>simp[hm]at hv
      |some obj=>
       rw[hm]at hv;cases hi:ob id with
       |none=>rw[(hs.dom id).2 hi]at hm;cases hm
       |some i=>
        have ho:=hs.own id obj i hm hi;cases obj with
        |arr z s=>
         simp only at hv;split at hv
         ·rename_i hze;simp only[Option.some.injEq,Prod.mk.injEq]at hv;obtain⟨rfl,rfl⟩:=hv;exact main z s i hze hp hi ho.2.1 ho.2.2.1 ho.arr_none hr
         ·simp at hv
        |arrP z s=>
         simp only at hv;split at hv
         ·rename_i hze;simp only[Option.some.injEq,Prod.mk.injEq]at hv;obtain⟨rfl,rfl⟩:=hv;refine main z s i hze hp hi ho.1 ho.2.1 (fun hb=> ?_) hr;obtain⟨_,_,_,pp,_,h3⟩:=ho;rcases h3 with h3 |⟨b,_,_,_,h3,_⟩
          ·exact h3.2.1
          ·rw[hb]at h3;cases h3
         ·simp at hv
        |frz z s=>
         simp only at hv;split at hv
         ·rename_i hze;simp only[Option.some.injEq,Prod.mk.injEq]at hv;obtain⟨rfl,rfl⟩:=hv;exact main z s i hze hp hi ho.2.1 ho.2.2.1 ho.frz_none hr
         ·simp at hv
        |_=>simp at hv
     |_=>simp at hv
    |_=>cases a <;> simp at hv
   |_=>cases a <;> simp at hv
theorem E5g {ρ:Operand→Value}{e:AX→Option AV}{x:Operand}{ax:AX}{i:Nat}{p:Prop}{r:Res}{d:Nat}
  (hs:C8 G w ob m)(hx:cx x=some ax)(he:I8 G w ob ρ e)(hv:eval (.ext ax i) e m d=some (p,r)):
  C2 P G w ob m (do pure (.value (←Instr.extract (ρ x) i))) r:=by
 simp only[eval]at hv;cases hax:e ax with
 |none=>simp[hax]at hv
 |some a=>
  have hr:=he x ax a hx hax;rw[hax]at hv;cases a with
  |tup cs=>
   simp only at hv;cases hc:cs[i]? with
   |none=>simp[hc]at hv
   |some av=>
    simp only[hc,Option.some.injEq,Prod.mk.injEq]at hv;obtain⟨_,rfl⟩:=hv;generalize ρ x=v at hr;cases hr with
    |tup vs hn hrr=>
     have hlt:i<vs.size:=by
      rw[hn];rcases Nat.lt_or_ge i cs.length with h |h
      ·exact h
      ·rw[List.getElem?_eq_none h]at hc;cases hc
     refine C2.quiet hs (v:=vs.getD i undef) ?_ (hrr i av hc);simp[Instr.extract,Array.getElem?_eq_getElem hlt]
  |_=>simp at hv
theorem B3h {a:AV}{v:Value}(h:Rel G w ob a v){n:Nat}
  (ha:(∃z g,a= .dsl z n g)∨(∃z g,a= .dslx z n g)∨(∃id off tot,a= .sl id off n tot)): ∃ad cap,v= .slice ad n cap:=by
 rcases ha with⟨z,g,rfl⟩ |⟨z,g,rfl⟩ |⟨id,off,tot,rfl⟩
 ·cases h with
  |dslNil=>exact⟨_,_,rfl⟩
  |dslE a cap=>exact⟨_,_,rfl⟩
  |dsl=>exact⟨_,_,rfl⟩
 ·cases h with
  |dslxNil=>exact⟨_,_,rfl⟩
  |dslxE a=>exact⟨_,_,rfl⟩
  |dslx=>exact⟨_,_,rfl⟩
 ·cases h with
  |sl i h hle hs hv=>obtain⟨a,c,rfl⟩:=hs;exact⟨_,_,rfl⟩
theorem E6b {t ty el:TypeId}{cs:Array Bool}{ρ:Operand→Value}{e:AX→Option AV}{x:Operand}{ax:AX}{p:Prop}{r:Res}{d:Nat}
  (ht:P.underlying t=some (.slice el))
  (hs:C8 G w ob m)(hx:cx x=some ax)(he:I8 G w ob ρ e)(hv:eval (.len ax) e m d=some (p,r)):
  C2 P G w ob m (builtin .len #[t] ty cs #[ρ x]) r:=by
 have key: ∀ad n cap,(builtin .len #[t] ty cs #[.slice ad n cap]).run P w= .ok (.value (.int .i64 n)) w:=fun ad n cap=>by simp[builtin,Builtin.len_,run_underlying ht,goInt]
 simp only[eval]at hv;cases hax:e ax with
 |none=>simp[hax]at hv
 |some a=>
  have hr:=he x ax a hx hax;rw[hax]at hv;have fin: ∀n:Nat,r=⟨some (.sc (.int .i64 n)),[]⟩→(∃ad cap,ρ x= .slice ad n cap)→C2 P G w ob m (builtin .len #[t] ty cs #[ρ x]) r:=by rintro n rfl ⟨ad,cap,h⟩;rw[h];exact C2.quiet hs (key _ _ _) (.sc rfl)
  cases a with
  |dsl z n g=>simp only[Option.some.injEq,Prod.mk.injEq]at hv;exact fin n hv.2.symm (B3h hr (.inl ⟨_,_,rfl⟩))
  |dslx z n g=>simp only[Option.some.injEq,Prod.mk.injEq]at hv;exact fin n hv.2.symm (B3h hr (.inr (.inl ⟨_,_,rfl⟩)))
  |sl id off n tot=>simp only[Option.some.injEq,Prod.mk.injEq]at hv;exact fin n hv.2.symm (B3h hr (.inr (.inr ⟨_,_,_,rfl⟩)))
  |sc u=>
   split at hv
   all_goals first
    |(rename_i heq;cases heq;done)
    |skip
   ·rename_i heq;simp only[Option.some.injEq,AV.sc.injEq]at heq;subst heq;simp only[Option.some.injEq,Prod.mk.injEq]at hv;exact fin _ hv.2.symm ⟨_,_,hr.sc_eq⟩
   ·cases hv
  |_=>simp at hv
theorem E4q {t ty k el:TypeId}{cs:Array Bool}{ρ:Operand→Value}{e:AX→Option AV}{x:Operand}{ax:AX}{p:Prop}{r:Res}{d:Nat}
  (ht:P.underlying t=some (.map k el))
  (hs:C8 G w ob m)(hx:cx x=some ax)(he:I8 G w ob ρ e)(hv:eval (.mlen ax) e m d=some (p,r)):
  C2 P G w ob m (builtin .len #[t] ty cs #[ρ x]) r:=by
 simp only[eval]at hv;cases hax:e ax with
 |none=>simp[hax]at hv
 |some a=>
  have hr:=he x ax a hx hax;rw[hax]at hv;cases a with
  |mp id=>
   simp only at hv;generalize ρ x=v at hr;cases hr with
   |mp b i h hb hm=>
    cases hmi:m id with
    |none=>simp[hmi]at hv
    |some obj=>
     have ho:=hs.own id obj i hmi h;rw[hmi]at hv;cases obj with
     |map k' es=>simp only[Option.some.injEq,Prod.mk.injEq]at hv;obtain⟨_,rfl⟩:=hv;obtain⟨_,b',ents,clock,h1,h2,h3,_⟩:=ho;rw[hb]at h1;injection h1 with h1;subst h1;refine C2.quiet hs (v:= .int .i64 es.length) ?_ (.sc rfl);simp[builtin,Builtin.len_,run_underlying ht,goInt,getObj,Sem.run,h2,h3]
     |mapS k' es=>simp only[Option.some.injEq,Prod.mk.injEq]at hv;obtain⟨_,rfl⟩:=hv;obtain⟨_,b',ents,clock,h1,h2,h3,_⟩:=ho;rw[hb]at h1;injection h1 with h1;subst h1;refine C2.quiet hs (v:= .int .i64 es.length) ?_ (.sc rfl);simp[builtin,Builtin.len_,run_underlying ht,goInt,getObj,Sem.run,h2,h3]
     |_=>simp at hv
  |_=>simp at hv
theorem E1o {ρ:Operand→Value}{e:AX→Option AV}{x:Operand}{ax:AX}{p:Prop}{r:Res}{d:Nat}{o:Oper}(hop:o.op= .nilCheck x)
  (hs:C8 G w ob m)(hx:cx x=some ax)(he:I8 G w ob ρ e)(hv:eval (.nilck ax) e m d=some (p,r)):
  C2 P G w ob m (execOp ρ o) r:=by
 simp only[eval]at hv;cases hax:e ax with
 |none=>simp[hax]at hv
 |some a=>
  have hr:=he x ax a hx hax;rw[hax]at hv;cases a with
  |fptr cs=>simp only[Option.some.injEq,Prod.mk.injEq]at hv;obtain⟨_,rfl⟩:=hv;refine C2.quiet hs (v:=ρ x) ?_ hr;simp only[execOp,hop];generalize ρ x=v at hr;cases hr;rfl
  |ptr id k o tot=>simp only[Option.some.injEq,Prod.mk.injEq]at hv;obtain⟨_,rfl⟩:=hv;refine C2.quiet hs (v:=ρ x) ?_ hr;simp only[execOp,hop];generalize ρ x=v at hr;cases hr;rfl
  |_=>simp at hv
theorem C8k {isMax:Bool}{ts:Array TypeId}{ty:TypeId}{cs:Array Bool}{ρ:Operand→Value}{e:AX→Option AV}{x y:Operand}{ax ay:AX}{p:Prop}{r:Res}{d:Nat}
  (hs:C8 G w ob m)(hx:cx x=some ax)(hy:cx y=some ay)(he:I8 G w ob ρ e)(hv:eval (.minmax isMax ax ay) e m d=some (p,r)):
  C2 P G w ob m (builtin (if isMax then .max else .min) ts ty cs #[ρ x,ρ y]) r:=by
 simp only[eval]at hv;cases hax:e ax with
 |none=>simp[hax]at hv
 |some a=>
  cases hay:e ay with
  |none=>
   rw[hax,hay]at hv;cases a with
   |sc u=>cases u <;> simp at hv
   |_=>simp at hv
  |some b=>
   have hr:=he x ax a hx hax
   have hr2:=he y ay b hy hay;rw[hax,hay]at hv;cases a with
   |sc u=>
    cases b with
    |sc u'=>
     rw[hr.sc_eq,hr2.sc_eq];cases u with
     |int k n=>
      cases u' with
      |int k' n'=>
       simp only[Option.some.injEq,Prod.mk.injEq]at hv;obtain⟨_,rfl⟩:=hv;cases isMax
       ·exact C2.quiet hs (v:= .int k (if n'<n then n' else n)) (by simp[builtin,Builtin.min_,Builtin.min2]) (.sc rfl)
       ·exact C2.quiet hs (v:= .int k (if n'>n then n' else n)) (by simp[builtin,Builtin.max_,Builtin.max2]) (.sc rfl)
      |_=>simp at hv
     |_=>simp at hv
    |_=>cases u <;> simp at hv
   |_=>simp at hv
theorem E64 {t:TypeId}{f:Nat}{off:Nat}{n:Option Nat}{fields:Array Field}{fd:Field}{ρ:Operand→Value}{e:AX→Option AV}{x:Operand}{ax:AX}{p:Prop}{r:Res}{d:Nat}
  (ht:P.underlying t=some (.struct fields))(hf:fields[f]? =some fd)(hoff:fd.offset=off)
  (htn:(match n with |none=>L7 P fd.type=some false |some k=>L7 P fd.type=some true∧P4 P fd.type=some k))
  (hs:C8 G w ob m)(hx:cx x=some ax)(he:I8 G w ob ρ e)(hv:eval (.fld off n ax) e m d=some (p,r)):
  C2 P G w ob m (do pure (.value (←Instr.field t (ρ x) f))) r:=by
 simp only[eval]at hv;cases hax:e ax with
 |none=>simp[hax]at hv
 |some a=>
  have hr:=he x ax a hx hax;rw[hax]at hv;cases a with
  |agg cs=>
   simp only[Option.map_eq_some_iff,Prod.mk.injEq]at hv;obtain⟨av,hk,_,rfl⟩:=hv;generalize ρ x=v at hr;cases hr with
   |agg vs hn ho hrr=>
    cases n with
    |none=>
     cases hd:cs.drop off with
     |nil=>simp[hd,A53]at hk
     |cons c cs'=>
      simp only[hd,A53,Option.some.injEq]at hk;subst hk;have hc:cs[off]? =some c:=by have:=getElem?_drop_lt (l:=cs) (n:=off) (j:=0) (a:=c) (by simp[hd]);simpa using this
      have hlt:off<vs.size:=by
       rw[hn];rcases Nat.lt_or_ge off cs.length with h |h
       ·exact h
       ·rw[List.getElem?_eq_none h]at hc;cases hc
      refine C2.quiet hs (v:=vs.getD off undef) ?_ (hrr off c hc);simp[Instr.field,run_underlying ht,hf,asAgg,part,T6 htn,hoff,Array.getElem?_eq_getElem hlt]
    |some k=>
     obtain⟨h1,h2⟩:=htn;simp only[A53,Option.map_eq_some_iff]at hk;obtain⟨rr,hrr',rfl⟩:=hk;obtain⟨rfl,hl⟩:=B6a k _ rr hrr';rw[List.length_drop]at hl;refine C2.quiet hs (v:= .agg (vs.extract off (off+k))) ?_ ?_
     ·simp[Instr.field,run_underlying ht,hf,asAgg,part,T6 h1,O8 h2,hoff]
     ·have hget: ∀(j:Nat) (av:AV),((cs.drop off).take k)[j]? =some av→j<k∧cs[off+j]? =some av:=fun j av hj=>by
       rw[List.getElem?_take]at hj;split at hj
       ·rw[List.getElem?_drop]at hj;exact⟨by assumption,hj⟩
       ·cases hj
      refine .agg _ ?_ (fun j av hj=>ho _ av (hget j av hj).2) (fun j av hj=> ?_)
      ·rw[Array.size_extract,List.length_take,List.length_drop];omega
      ·obtain⟨hjk,hj'⟩:=hget j av hj;have:=hrr _ av hj'
       have e1:(vs.extract off (off+k)).getD j undef=vs.getD (off+j) undef:=by
        have hlt:off+j<cs.length:=by
         rcases Nat.lt_or_ge (off+j) cs.length with h |h
         ·exact h
         ·rw[List.getElem?_eq_none h]at hj';cases hj'
        have h3:j<min (off+k) vs.size-off:=by omega
        have h4:off+j<vs.size:=by omega
        simp[h3,Array.getElem?_eq_getElem h4]
       rw[e1];exact this
  |_=>simp at hv
theorem A6w {t:TypeId}{z:Value}(h:(P.info? t).bind (·.zero)=some z):(zeroValue t).run P w= .ok z w:=by
 cases hi:P.info? t with
 |none=>simp[hi]at h
 |some i=>simp only[hi,Option.bind_some]at h;simp[zeroValue,typeInfo,hi,h]
theorem C2h {s:Sem Next}{id:Nat}{cs:List AV}{vs:Array Value}{T:TypeId}(hs:C8 G w ob m)(hid:m id=none)
  (hn:vs.size=cs.length)(hone: ∀(j:Nat) (av:AV),cs[j]? =some av→av.one=true)(hrel: ∀(j:Nat) (av:AV),cs[j]? =some av→Rel G w ob av (vs.getD j undef))
  (h:s.run P w= .ok (.value (.pointer (some ⟨w.heap.size,0,none⟩))) (w.alloc (.cells vs T))):C2 P G w ob m s ⟨some (.ptr id 0 0 1),[(id, .box cs)]⟩:=by
 have hno:ob id=none:=(hs.dom id).1 hid
 have hext:C3 ob (upd ob id (some ⟨some w.heap.size,cs.length,1,1, .cells⟩)):=fun x j hj=>by
  have hx:x≠id:=fun e=>by subst e;rw[hno]at hj;cases hj
  exact⟨j,by rw[E8 hx];exact hj, .inl rfl⟩
 have hGw: ∀b,G b→(w.alloc (.cells vs T)).heap[b]? =w.heap[b]? :=fun b hG=>heap_alloc_old _ _ _ (hs.lt b hG);refine C2.new (w0:=w) (i:=⟨some w.heap.size,cs.length,1,1, .cells⟩) hs hid rfl rfl rfl rfl h (fun b hb=>by simpa using hb.symm) ?_ ?_
 ·refine⟨rfl,rfl,rfl,w.heap.size,vs,T,rfl,heap_alloc_new _ _,hn,fun j av hj=>⟨hone j av hj,vs.getD j undef,?_,(hrel j av hj).ext (fun _ h=>h) hGw hext⟩⟩;have hlt:j<vs.size:=by
   rw[hn];rcases Nat.lt_or_ge j cs.length with h |h
   ·exact h
   ·rw[List.getElem?_eq_none h]at hj;cases hj
  simp[Array.getElem?_eq_getElem hlt]
 ·exact .ptr _ ⟨some w.heap.size,cs.length,1,1, .cells⟩ (by simp) (Nat.le_refl _) fun _=>⟨w.heap.size,rfl,by simp,Nat.one_pos⟩
theorem E1k {t:TypeId}{z:Value}{e:AX→Option AV}{p:Prop}{r:Res}{d:Nat}
  (hz:(P.info? t).bind (·.zero)=some z)(hone:z.cells.all Value.oneCell'=true)
  (hs:C8 G w ob m)(hv:eval (.alloc z.cells.toList) e m d=some (p,r)):
  C2 P G w ob m (do pure (.value (←Instr.alloc t true (.tuple #[])))) r:=by
 simp only[eval]at hv;cases hm:m (nid d)with
 |some o=>simp[hm]at hv
 |none=>
  simp only[hm,Option.some.injEq,Prod.mk.injEq]at hv;obtain⟨_,rfl⟩:=hv;refine C2h (vs:=z.cells) (T:=t) hs hm (by simp) (fun j av hj=> ?_) (fun j av hj=> ?_) ?_
  ·rw[List.getElem?_map,Option.map_eq_some_iff]at hj;obtain⟨u,_,rfl⟩:=hj;rfl
  ·rw[List.getElem?_map,Option.map_eq_some_iff]at hj;obtain⟨u,hu,rfl⟩:=hj;have hu':z.cells[j]? =some u:=by simpa using hu
   have hd:z.cells.getD j undef=u:=by simp[hu']
   rw[hd];exact .sc (Array.all_eq_true'.1 hone u (Array.mem_of_getElem? hu'))
  ·simp[Instr.alloc,A6w hz,newVar,newRow]
theorem D8b {cs:List AV}{v:Value}(h:Rel G w ob (.agg cs) v):v.cells.size=cs.length∧(∀(j:Nat) (av:AV),cs[j]? =some av→av.one=true)∧
  ∀(j:Nat) (av:AV),cs[j]? =some av→Rel G w ob av (v.cells.getD j undef):=by
 cases h with
 |agg vs hn ho hr=>exact⟨hn,ho,hr⟩
theorem D9h {a:AV}{v:Value}(h:Rel G w ob a v)(ho:a.one=true):v.cells= #[v]:=by have:=h.one_cell ho;cases v <;> simp_all [Value.cells,Value.oneCell']
theorem A91 {a:AV}{v:Value}(h:Rel G w ob a v)(ht: ∀l,a≠ .tup l):v.cells.size=a.cells.length∧(∀(j:Nat) (av:AV),a.cells[j]? =some av→av.one=true)∧
  ∀(j:Nat) (av:AV),a.cells[j]? =some av→Rel G w ob av (v.cells.getD j undef):=by
 by_cases ho:a.one=true
 ·have hc:a.cells= [a]:=by cases a <;> simp_all [AV.cells,AV.one]
  rw[D9h h ho,hc];refine⟨rfl,fun j av hj=> ?_,fun j av hj=> ?_⟩
  all_goals
   cases j with
   |zero=>simp at hj;subst hj;first |exact ho |exact h
   |succ j=>simp at hj
 ·cases a with
  |agg cs=>exact D8b h
  |tup l=>exact absurd rfl (ht l)
  |_=>exact absurd rfl ho
theorem E5q {t:TypeId}{ρ:Operand→Value}{e:AX→Option AV}{x:Operand}{ax:AX}{p:Prop}{r:Res}{d:Nat}
  (hs:C8 G w ob m)(hx:cx x=some ax)(he:I8 G w ob ρ e)(hv:eval (.box ax) e m d=some (p,r)):
  C2 P G w ob m (do pure (.value (←Instr.box t (ρ x)))) r:=by
 simp only[eval]at hv;cases hm:m (nid d)with
 |some o=>simp[hm]at hv
 |none=>
  cases hax:e ax with
  |none=>simp[hm,hax]at hv
  |some a=>
   have hr:=he x ax a hx hax;rw[hm,hax]at hv;have main:(∀l,a≠ .tup l)→r=⟨some (.ptr (nid d) 0 0 1),[(nid d, .box a.cells)]⟩→C2 P G w ob m (do pure (.value (←Instr.box t (ρ x)))) r:=by rintro ht rfl;obtain⟨h1,h2,h3⟩:=A91 hr ht;exact C2h (vs:=(ρ x).cells) (T:=t) hs hm h1 h2 h3 (by simp[Instr.box,newVar,newRow])
   cases a with
   |agg cs=>simp only[Option.some.injEq,Prod.mk.injEq]at hv;exact main (fun _ h=>by cases h) hv.2.symm
   |tup l=>simp at hv
   |_=>simp only[Option.some.injEq,Prod.mk.injEq]at hv;exact main (fun _ h=>by cases h) hv.2.symm
end
end Go.Abs
end
section
namespace Go.Abs
section
variable {P:Program} {G:Nat→Prop} {w:World} {ob:Place} {m:Nat→Option A8}
def A0w(G:Nat→Prop)(w:World)(ob:Place)(vs:Array Value)(cs:List AV):Prop:=vs.size=cs.length∧(∀(j:Nat) (av:AV),cs[j]? =some av→av.one=true)∧ ∀(j:Nat) (av:AV),cs[j]? =some av→Rel G w ob av (vs.getD j undef)
theorem C0r: ∀(l:List Value) (k off:Nat) (cs:Array Value) (q:Nat),
  (((l.zipIdx k).foldl (fun(cs:Array Value) (x:Value×Nat)=>cs.setIfInBounds (off+x.2) x.1) cs).size=cs.size)∧
  (((l.zipIdx k).foldl (fun(cs:Array Value) (x:Value×Nat)=>cs.setIfInBounds (off+x.2) x.1) cs)[q]? =
    if off+k≤q∧q<off+k+l.length∧q<cs.size then l[q-(off+k)]? else cs[q]?)
 | [],k,off,cs,q=>by refine⟨rfl,?_⟩;simp only[List.zipIdx_nil,List.foldl_nil,List.length_nil,Nat.add_zero];rw[if_neg (by omega)]
 |v::l,k,off,cs,q=>by
  obtain⟨h1,h2⟩:=C0r l (k+1) off (cs.setIfInBounds (off+k) v) q;simp only[List.zipIdx_cons,List.foldl_cons];refine⟨by rw[h1];simp,?_⟩;rw[h2];simp only[Array.size_setIfInBounds,List.length_cons];by_cases hq:q<cs.size
  ·by_cases ha:off+(k+1)≤q∧q<off+(k+1)+l.length
   ·rw[if_pos ⟨ha.1,ha.2,hq⟩,if_pos ⟨by omega,by omega,hq⟩];have:q-(off+k)=(q-(off+(k+1)))+1:=by omega
    rw[this,List.getElem?_cons_succ]
   ·rw[if_neg (fun h=>ha ⟨h.1,h.2.1⟩)];by_cases he:q=off+k
    ·subst he;rw[if_pos ⟨by omega,by omega,hq⟩];simp[hq]
    ·rw[if_neg (by omega),Array.getElem?_setIfInBounds_ne (by omega)]
  ·rw[if_neg (by omega),if_neg (by omega)];rw[Array.getElem?_eq_none (by simp;omega),Array.getElem?_eq_none (by omega)]
theorem getElem?_splice(cs p:List AV)(n q:Nat)(h:n+p.length≤cs.length):
  (M3 cs n p)[q]? =if n≤q∧q<n+p.length then p[q-n]? else cs[q]? :=by
 rw[A9t _ _ _ (by omega)];have hn:(cs.take n).length=n:=by simp;omega
 by_cases h1:q<n
 ·rw[List.append_assoc,List.getElem?_append_left (by omega),if_neg (by omega),List.getElem?_take,if_pos h1]
 ·by_cases h2:q<n+p.length
  ·rw[List.append_assoc,List.getElem?_append_right (by omega),hn,List.getElem?_append_left (by omega),if_pos ⟨by omega,h2⟩]
  ·rw[List.append_assoc,List.getElem?_append_right (by omega),hn,List.getElem?_append_right (by omega),if_neg (by omega),List.getElem?_drop];congr 1;omega
theorem A4v(cs p:List AV)(n:Nat)(h:n+p.length≤cs.length):(M3 cs n p).length=cs.length:=by rw[A9t _ _ _ (by omega)];simp;omega
theorem C8b {vs:Array Value}{j:Nat}{v:Value}(h:vs[j]? =some v):vs.getD j undef=v:=by simp[h]
theorem A0w.get {vs:Array Value}{cs:List AV}(h:A0w G w ob vs cs){j:Nat}{av:AV}(hj:cs[j]? =some av): ∃v,vs[j]? =some v∧av.one=true∧Rel G w ob av v:=by
 have hlt:j<vs.size:=by
  rw[h.1];rcases Nat.lt_or_ge j cs.length with h |h
  ·exact h
  ·rw[List.getElem?_eq_none h]at hj;cases hj
 refine⟨vs[j],Array.getElem?_eq_getElem hlt,h.2.1 j av hj,?_⟩;have:=h.2.2 j av hj;rwa[C8b (Array.getElem?_eq_getElem hlt)]at this
theorem A0w.mk' {vs:Array Value}{cs:List AV}(hn:vs.size=cs.length)(h: ∀(j:Nat) (av:AV),cs[j]? =some av→ ∃v,vs[j]? =some v∧av.one=true∧Rel G w ob av v):A0w G w ob vs cs:=⟨hn,fun j av hj=>(h j av hj).choose_spec.2.1,fun j av hj=>by obtain⟨v,h1,_,h3⟩:=h j av hj;rw[C8b h1];exact h3⟩
theorem C3i {e:AX→Option AV}{ρ:Operand→Value}(he:I8 G w ob ρ e){place:Nat→Option (Nat×Nat)}:
  ∀(C0:List (Nat×Operand)) (ps:List (Nat×Nat×AX)) (Z:Array Value) (cs cs':List AV),
   (C0.mapM fun p=>match place p.1,cx p.2 with |some (o,s),some ax=>some (o,s,ax) |_,_=>none)=some ps→
   A0w G w ob Z cs→A21 e cs ps=some cs'→ ∃Z',Instr.fill place Z (C0.map fun p=>(p.1,ρ p.2))=some Z'∧A0w G w ob Z' cs'
 | [],ps,Z,cs,cs',hp,hz,hf=>by simp at hp;subst hp;simp only[A21,Option.some.injEq]at hf;subst hf;exact⟨Z,rfl,hz⟩
 |(i,x)::C0,ps,Z,cs,cs',hp,hz,hf=>by
  simp only[List.mapM_cons,Option.bind_eq_bind,Option.pure_def]at hp;cases hpl:place i with
  |none=>simp[hpl]at hp
  |some os=>
   obtain⟨o,s⟩:=os;cases hcx:cx x with
   |none=>simp[hpl,hcx]at hp
   |some ax=>
    simp only[hpl,hcx,Option.bind_some]at hp;rw[Option.bind_eq_some_iff]at hp;obtain⟨ps',hp',hps⟩:=hp;simp only[Option.some.injEq]at hps;subst hps;simp only[A21]at hf;cases hax:e ax with
    |none=>simp[hax]at hf
    |some a=>
     have hr:=he x ax a hcx hax
     have hnt: ∀l,a≠ .tup l:=fun l h=>by subst h;simp[hax]at hf
     have hf':(if a.cells.length=s∧o+s≤cs.length then A21 e (M3 cs o a.cells) ps' else none)=some cs':=by
      rw[hax]at hf;cases a with
      |tup l=>exact absurd rfl (hnt l)
      |_=>exact hf
     split at hf'
     ·rename_i hc;obtain⟨hc1,hc2⟩:=hc;obtain⟨h1,h2,h3⟩:=A91 hr hnt;have hv:A0w G w ob (ρ x).cells a.cells:=⟨h1,h2,h3⟩
      have hzs:=hz.1
      have hfs:=fun q=>C0r (ρ x).cells.toList 0 o Z q
      have hz':A0w G w ob ((ρ x).cells.zipIdx.foldl (fun(cs:Array Value) (x:Value×Nat)=>cs.setIfInBounds (o+x.2) x.1) Z) (M3 cs o a.cells):=by
       rw[←Array.foldl_toList,Array.toList_zipIdx];refine A0w.mk' ?_ fun j av hj=> ?_
       ·rw[(hfs 0).1,A4v _ _ _ (by omega)];exact hz.1
       ·rw[(hfs j).2];rw[getElem?_splice _ _ _ _ (by omega)]at hj;simp only[Nat.add_zero,Array.length_toList]at hj⊢;split at hj
        ·rename_i hq;rw[if_pos ⟨hq.1,by omega,by omega⟩];obtain⟨v,h4,h5,h6⟩:=hv.get hj;exact⟨v,by simpa using h4,h5,h6⟩
        ·rename_i hq;rw[if_neg (by omega)];exact hz.get hj
      obtain⟨Z',h4,h5⟩:=C3i he C0 ps' _ _ cs' hp' hz' hf';refine⟨Z',?_,h5⟩;simp only[List.map_cons,Instr.fill,hpl];rw[if_neg ?_]
      ·exact h4
      ·simp only[Bool.or_eq_true,ne_eq,decide_eq_true_eq,not_or,Classical.not_not];omega
     ·cases hf'
theorem D92 {z:Value}(hone:z.cells.all Value.oneCell'=true):A0w G w ob z.cells (z.cells.toList.map .sc):=by
 refine A0w.mk' (by simp) fun j av hj=> ?_;rw[List.getElem?_map,Option.map_eq_some_iff]at hj;obtain⟨u,hu,rfl⟩:=hj;have hu':z.cells[j]? =some u:=by simpa using hu
 exact⟨u,hu',rfl, .sc (Array.all_eq_true'.1 hone u (Array.mem_of_getElem? hu'))⟩
theorem C6w {Z:Array Value}(hone:Z.all Value.oneCell'=true):A0w G w ob Z (Z.toList.map .sc):=by
 refine A0w.mk' (by simp) fun j av hj=> ?_;rw[List.getElem?_map,Option.map_eq_some_iff]at hj;obtain⟨u,hu,rfl⟩:=hj;have hu':Z[j]? =some u:=by simpa using hu
 exact⟨u,hu',rfl, .sc (Array.all_eq_true'.1 hone u (Array.mem_of_getElem? hu'))⟩
def B6h(P:Program)(t:TypeId):Option (Nat→Option (Nat×Nat)):=
 match P.underlying t with
 |some (.struct fields)=>match fields.toList.mapM (fun f=>(P.info? f.type).map fun i=>(f.offset,i.size))with
  |some places=>some (places.toArray[·]?)
  |none=>none
 |some (.array _ e)=>match P.info? e with
  |some ie=>some (fun i=>some (i*ie.size,ie.size))
  |none=>none
 |_=>none
theorem E01 {t:TypeId}{z:Value}{place:Nat→Option (Nat×Nat)}{C0:Array (Nat×Operand)}{ps:List (Nat×Nat×AX)}{ρ:Operand→Value}{e:AX→Option AV}{p:Prop}{r:Res}{d:Nat}
  (hz:(P.info? t).bind (·.zero)=some z)(hone:z.cells.all Value.oneCell'=true)(hpl:B6h P t=some place)
  (hps:(C0.toList.mapM fun p=>match place p.1,cx p.2 with |some (o,s),some ax=>some (o,s,ax) |_,_=>none)=some ps)
  (hs:C8 G w ob m)(he:I8 G w ob ρ e)(hv:eval (.build z.cells.toList ps) e m d=some (p,r)):
  C2 P G w ob m (do pure (.value (←Instr.build t (C0.map fun(i,x)=>(i,ρ x))))) r:=by
 simp only[eval]at hv;cases hf:A21 e (z.cells.toList.map .sc) ps with
 |none=>simp[hf]at hv
 |some cs=>
  simp only[hf,Option.some.injEq,Prod.mk.injEq]at hv;obtain⟨_,rfl⟩:=hv;obtain⟨Z',h1,h2⟩:=C3i he C0.toList ps z.cells _ cs hps (D92 hone) hf;cases hi:P.info? t with
  |none=>simp[hi]at hz
  |some it=>
   simp only[hi,Option.bind_some]at hz;have hb:P.built t (C0.map fun(x:Nat×Operand)=>(x.1,ρ x.2)).toList=some Z':=by
    rw[Array.toList_map];unfold Program.built;unfold B6h at hpl;cases hu:P.underlying t with
    |none=>simp[hu]at hpl
    |some dsc=>
     rw[hu]at hpl;cases dsc with
     |struct fields=>
      simp only at hpl;cases hm:fields.toList.mapM (fun f=>(P.info? f.type).map fun i=>(f.offset,i.size))with
      |none=>simp[hm]at hpl
      |some places=>simp only[hm,Option.some.injEq]at hpl;subst hpl;simp only[hi,hz,hm];exact h1
     |array n el=>
      simp only at hpl;cases hie:P.info? el with
      |none=>simp[hie]at hpl
      |some ie=>simp only[hie,Option.some.injEq]at hpl;subst hpl;simp only[hi,hz,hie];exact h1
     |_=>simp at hpl
   refine C2.quiet hs (v:= .agg Z') ?_ (.agg Z' h2.1 h2.2.1 h2.2.2);have:=run_build (P:=P) w t (C0.map fun(x:Nat×Operand)=>(x.1,ρ x.2)) Z' hb;simp[this]
theorem C8.freeze(hs:C8 G w ob m){id z:Nat}{s:Sq}(hm:m id=some (.arr z s)):
  ∃G',C8 G' w ob (upd m id (some (.frz z s)))∧(∀b,G b→G' b)∧(∀b,G' b→G b∨N9 ob b)∧
   (∀i b,ob id=some i→i.blk=some b→G' b):=by
 cases hi:ob id with
 |none=>rw[(hs.dom id).2 hi]at hm;cases hm
 |some i=>
  have ho:=hs.own id _ i hm hi;refine⟨fun b=>G b∨i.blk=some b,⟨?_,hs.inj,?_,?_,?_⟩,fun b h=> .inl h,fun b h=>h.imp (fun h=>h) (fun h=>⟨id,i,hi, .inl h⟩),fun j b hj hb=> ?_⟩
  ·intro x;by_cases hx:x=id
   ·subst hx;simp[hi]
   ·rw[E8 hx];exact hs.dom x
  ·rintro b (h |h)
   ·exact hs.lt b h
   ·exact ho.blk_lt h
  ·intro x o j hx hj;by_cases hxe:x=id
   ·subst hxe;simp only[W3,Option.some.injEq]at hx;subst hx;rw[hi]at hj;injection hj with hj;subst hj;obtain⟨h1,h2,h3,h4,h5⟩:=ho;refine⟨h1,h2,h3,h4,?_⟩;rcases h5 with h5 |⟨b,arr,T,h6,h7,h8,h9⟩
    ·exact .inl h5
    ·exact .inr ⟨b,arr,T,(0,0),h6, .inr h6,h7,h9.ext (fun _ h=> .inl h) (fun _ _=>rfl) (C3.refl ob)⟩
   ·rw[E8 hxe]at hx;exact(hs.own x o j hx hj).ext (fun _ h=> .inl h) (fun _ _=>rfl) (C3.refl ob) (fun _ _=>rfl)
  ·intro x o j b hx hown hj hb;by_cases hxe:x=id
   ·subst hxe;simp only[W3,Option.some.injEq]at hx;subst hx;simp[A8.owned]at hown
   ·rw[E8 hxe]at hx;rintro(h |h)
    ·exact hs.sep x o j b hx hown hj hb h
    ·exact hxe (hs.inj _ _ _ _ b hj hi hb (.inl h))
  ·injection hj with hj;subst hj;exact .inr hb
end
end Go.Abs
end
section
namespace Go.Abs
section
variable {P:Program} {G:Nat→Prop} {w:World} {ob:Place} {m:Nat→Option A8}
theorem A0u {β:Type}{f:Nat→Option β}{k:Nat}{v:Option β}(h:f k=v):upd f k v=f:=by
 funext x;unfold upd;split
 ·rename_i hx;rw[hx,h]
 ·rfl
theorem D5q {id z off len tot:Nat}{s:Sq}{v:Value}(hs:C8 G w ob m)(hm:m id=some (.frz z s))(hr:Rel G w ob (.sl id off len tot) v)(ht:tot=s.n):
  Rel G w ob (.dsl z len (fun i=>s.g (off+i))) v:=by
 cases hr with
 |sl i h hle hs' hv=>
  have ho:=hs.own id _ i hm h;obtain⟨h0,h1,h2,h3,h4⟩:=ho;obtain⟨h5,h6,h7⟩:=hv (by rw[h2,ht]);rcases h4 with⟨hb,hn,_⟩ |⟨b,arr,T,fz,hb,hG,hh,hin⟩
  ·have:len=0:=by omega
   subst this;rcases h6 hb with rfl |⟨a,rfl⟩
   ·exact .dslNil
   ·exact .dslE a 0
  ·obtain⟨o,c,rfl,hc,ho1,ho2⟩:=h7 b hb;by_cases hl:len=0
   ·subst hl;exact .dsl b o c (fun _ _=>undef) hG hc (fun i hi=>by omega) (fun i j av hi=>by omega) (fun i j hi=>by omega) (fun i j av hi=>by omega)
   ·have:=ho1 (by omega)
    subst this;refine .dsl b _ c (fun k j=>(arr[(off+k)*i.esz+j]?).getD undef) hG hc (fun k hk=>by rw[←h1];exact hin.1 _ (by omega)) (fun k j av hk hj=>(hin.2 _ j av (by omega) hj).1) (fun k j hk hj=> ?_) (fun k j av hk hj=> ?_)
    ·have hlen:=hin.1 (off+k) (by omega)
     obtain⟨_,u,hu,_⟩:=hin.2 (off+k) j (s.g (off+k))[j] (by omega) (List.getElem?_eq_getElem (by rw[hlen,h1];exact hj));have e:off*i.esz+(k*z+j)=(off+k)*i.esz+j:=by rw[Nat.add_mul,←h1,Nat.add_assoc]
     rw[e,cell_of_row w b _ arr T _ hh,hu];simp
    ·obtain⟨_,u,hu,hrel⟩:=hin.2 (off+k) j av (by omega) hj;rw[hu];exact hrel
theorem C8.freezeB(hs:C8 G w ob m){id:Nat}{cs:List AV}(hm:m id=some (.box cs))(hp:cs.all AV.pure=true):
  ∃G',C8 G' w ob (upd m id (some (.frzb cs)))∧(∀b,G b→G' b)∧(∀b,G' b→G b∨N9 ob b)∧
   (∀i b,ob id=some i→i.blk=some b→G' b):=by
 cases hi:ob id with
 |none=>rw[(hs.dom id).2 hi]at hm;cases hm
 |some i=>
  have ho:=hs.own id _ i hm hi;refine⟨fun b=>G b∨i.blk=some b,⟨?_,hs.inj,?_,?_,?_⟩,fun b h=> .inl h,fun b h=>h.imp (fun h=>h) (fun h=>⟨id,i,hi, .inl h⟩),fun j b hj hb=> ?_⟩
  ·intro x;by_cases hx:x=id
   ·subst hx;simp[hi]
   ·rw[E8 hx];exact hs.dom x
  ·rintro b (h |h)
   ·exact hs.lt b h
   ·exact ho.blk_lt h
  ·intro x o j hx hj;by_cases hxe:x=id
   ·subst hxe;simp only[W3,Option.some.injEq]at hx;subst hx;rw[hi]at hj;injection hj with hj;subst hj;obtain⟨h1,h2,h3,b,arr,T,h4,h5,h6,h7⟩:=ho;refine⟨h1,h2,h3,b,arr,T,(0,0),h4, .inr h4,h5,h6,fun j av hj=> ?_⟩;obtain⟨_,u,hu,hr⟩:=h7 j av hj;exact⟨List.all_eq_true.1 hp av (List.mem_of_getElem? hj),u,hu,hr.ext (fun _ h=> .inl h) (fun _ _=>rfl) (C3.refl ob)⟩
   ·rw[E8 hxe]at hx;exact(hs.own x o j hx hj).ext (fun _ h=> .inl h) (fun _ _=>rfl) (C3.refl ob) (fun _ _=>rfl)
  ·intro x o j b hx hown hj hb;by_cases hxe:x=id
   ·subst hxe;simp only[W3,Option.some.injEq]at hx;subst hx;simp[A8.owned]at hown
   ·rw[E8 hxe]at hx;rintro(h |h)
    ·exact hs.sep x o j b hx hown hj hb h
    ·exact hxe (hs.inj _ _ _ _ b hj hi hb (.inl h))
  ·injection hj with hj;subst hj;exact .inr hb
def A28(m m1:Nat→Option A8):Prop:= ∀id,m1 id=m id∨(∃z s,m id=some (.arr z s)∧m1 id=some (.frz z s))∨ ∃cs,m id=some (.box cs)∧m1 id=some (.frzb cs)
theorem D5j {id k o tot:Nat}{cs:List AV}{v:Value}(hs:C8 G w ob m)(hm:m id=some (.frzb cs))(hr:Rel G w ob (.ptr id k o tot) v)(hk:k=0)(ht:tot=1):
  Rel G w ob (.fptr (cs.drop o)) v:=by
 cases hr with
 |ptr a i h hle hv=>
  have ho:=hs.own id _ i hm h;obtain⟨h0,h1,h2,b,arr,T,fz,h3,h4,h5,h6,h7⟩:=ho;obtain⟨b',h8,rfl,h9⟩:=hv (by rw[h1,ht]);rw[h3]at h8;injection h8 with h8;subst h8;subst hk;have e:0*i.esz+o=o:=by simp
  rw[e];have hget: ∀(j:Nat) (av:AV),(cs.drop o)[j]? =some av→cs[o+j]? =some av:=fun j av hj=>by rwa[List.getElem?_drop]at hj
  refine .fptr b o (fun j=>(arr[o+j]?).getD undef) h4 (fun j av hj=>(h7 _ av (hget j av hj)).1) (fun j hj=> ?_) (fun j av hj=> ?_)
  ·have hlt:o+j<cs.length:=by simp only[List.length_drop]at hj;omega
   obtain⟨_,u,hu,_⟩:=h7 (o+j) _ (List.getElem?_eq_getElem hlt);rw[cell_of_row w b _ arr T _ h5,hu];rfl
  ·obtain⟨_,u,hu,hrel⟩:=h7 _ av (hget j av hj);rw[hu];exact hrel
theorem A18(m:Nat→Option A8)(a b:List (Nat×A8)):wrm m (a++b)=wrm (wrm m a) b:=by simp[wrm]
abbrev C7m(G:Nat→Prop)(w:World)(ob:Place)(m m1:Nat→Option A8)(wr:List (Nat×A8))(c':AV)(v:Value):Prop:= ∃G2,C8 G2 w ob (wrm m1 wr)∧A28 m (wrm m1 wr)∧(∀b,G b→G2 b)∧(∀b,G2 b→G b∨N9 ob b)∧c'.pure=true∧Rel G2 w ob c' v
theorem B6t {c c':AV}{p:Prop}{wr:List (Nat×A8)}{v:Value}{m1:Nat→Option A8}(h:c.pure=true)(hf:some (True,c,[])=some (p,c',wr))(hs:C8 G w ob m1)(ha:A28 m m1)(hr:Rel G w ob c v):
  C7m G w ob m m1 wr c' v:=by
 injection hf with hf;injection hf with _ hf;injection hf with h1 h2;subst h1 h2;exact⟨G,hs,ha,fun _ h=>h,fun _ h=> .inl h,h,hr⟩
mutual
theorem B7k: ∀ {c c':AV} {p:Prop} {wr:List (Nat×A8)} {v:Value} {G:Nat→Prop} {m1:Nat→Option A8},E7 m c=some (p,c',wr)→p→
  C8 G w ob m1→A28 m m1→Rel G w ob c v→
  C7m G w ob m m1 wr c' v
 | .sl id off len tot,c',p,wr,v,G,m1,hf,hp,hs,ha,hr=>by
   have frozen: ∀z s,tot=s.n→m1 id=some (.frz z s)→c'= .dsl z len (fun i=>s.g (off+i))→wrm m1 wr=m1→
     C7m G w ob m m1 wr c' v:=by
    rintro z s ht hm1 rfl hw;unfold C7m;rw[hw];exact⟨G,hs,ha,fun _ h=>h,fun _ h=> .inl h,rfl,D5q hs hm1 hr ht⟩
   simp only[E7]at hf;cases hm:m id with
   |none=>simp[hm]at hf
   |some obj=>
    rw[hm]at hf;cases obj with
    |arr z s=>
     simp only[Option.some.injEq,Prod.mk.injEq]at hf;obtain⟨rfl,rfl,rfl⟩:=hf;rcases ha id with h1 |⟨z',s',h1,h2⟩ |⟨cs',h1,h2⟩
     ·rw[hm]at h1;obtain⟨G2,h3,h4,h5,h6⟩:=hs.freeze h1;refine⟨G2,h3,?_,h4,h5,rfl,D5q h3 (by simp) (hr.ext h4 (fun _ _=>rfl) (C3.refl ob)) hp⟩;intro x;by_cases hx:x=id
      ·subst hx;exact .inr (.inl ⟨z,s,hm,by simp[wrm]⟩)
      ·simp only[wrm,List.foldl_cons,List.foldl_nil,E8 hx];exact ha x
     ·rw[hm]at h1;injection h1 with h1;injection h1 with h1 h1';subst h1;subst h1';exact frozen z s hp h2 rfl (by simp only[wrm,List.foldl_cons,List.foldl_nil];exact A0u h2)
     ·rw[hm]at h1;cases h1
    |frz z s=>
     simp only[Option.some.injEq,Prod.mk.injEq]at hf;obtain⟨rfl,rfl,rfl⟩:=hf;rcases ha id with h1 |⟨z',s',h1,h2⟩ |⟨cs',h1,h2⟩
     ·rw[hm]at h1;exact frozen z s hp h1 rfl rfl
     ·rw[hm]at h1;cases h1
     ·rw[hm]at h1;cases h1
    |_=>simp at hf
 | .ptr id k o tot,c',p,wr,v,G,m1,hf,hp,hs,ha,hr=>by
   have frozen: ∀cs,k=0→tot=1→m1 id=some (.frzb cs)→c'= .fptr (cs.drop o)→wrm m1 wr=m1→
     C7m G w ob m m1 wr c' v:=by
    rintro cs hk ht hm1 rfl hw;unfold C7m;rw[hw];exact⟨G,hs,ha,fun _ h=>h,fun _ h=> .inl h,rfl,D5j hs hm1 hr hk ht⟩
   simp only[E7]at hf;cases hm:m id with
   |none=>simp[hm]at hf
   |some obj=>
    rw[hm]at hf;cases obj with
    |box cs=>
     simp only at hf;split at hf
     case isFalse=>cases hf
     rename_i hpu;simp only[Option.some.injEq,Prod.mk.injEq]at hf;obtain⟨rfl,rfl,rfl⟩:=hf;rcases ha id with h1 |⟨z',s',h1,h2⟩ |⟨cs',h1,h2⟩
     ·rw[hm]at h1;obtain⟨G2,h3,h4,h5,h6⟩:=hs.freezeB h1 (by rw[List.all_eq_true];exact fun x hx=>let⟨j,hj⟩:=List.getElem?_of_mem hx;B20 hpu hj);refine⟨G2,h3,?_,h4,h5,rfl,D5j h3 (by simp) (hr.ext h4 (fun _ _=>rfl) (C3.refl ob)) hp.1 hp.2⟩;intro x;by_cases hx:x=id
      ·subst hx;exact .inr (.inr ⟨cs,hm,by simp[wrm]⟩)
      ·simp only[wrm,List.foldl_cons,List.foldl_nil,E8 hx];exact ha x
     ·rw[hm]at h1;cases h1
     ·rw[hm]at h1;injection h1 with h1;injection h1 with h1;subst h1;exact frozen cs hp.1 hp.2 h2 rfl (by simp only[wrm,List.foldl_cons,List.foldl_nil];exact A0u h2)
    |frzb cs=>
     simp only[Option.some.injEq,Prod.mk.injEq]at hf;obtain⟨rfl,rfl,rfl⟩:=hf;rcases ha id with h1 |⟨z',s',h1,h2⟩ |⟨cs',h1,h2⟩
     ·rw[hm]at h1;exact frozen cs hp.1 hp.2 h1 rfl rfl
     ·rw[hm]at h1;cases h1
     ·rw[hm]at h1;cases h1
    |_=>simp at hf
 | .fn f a b,c',p,wr,v,G,m1,hf,hp,hs,ha,hr=>by
   simp only[E7]at hf;split at hf
   ·rename_i p1 a' w1 q1 b' w2 h1 h2;simp only[Option.some.injEq,Prod.mk.injEq]at hf;obtain⟨rfl,rfl,rfl⟩:=hf;cases hr with
    |fn vs us hn hm hra hrb=>
     obtain⟨G2,a1,a2,a3,a4,a5,a6⟩:=A52 a a' p1 w1 (fun j=>vs.getD j undef) G m1 h1 hp.1 hs ha hra;obtain⟨G3,b1,b2,b3,b4,b5,b6⟩:=A52 b b' q1 w2 (fun j=>us.getD j undef) G2 _ h2 hp.2 a1 a2 (fun j av hj=>(hrb j av hj).ext a3 (fun _ _=>rfl) (C3.refl ob));refine⟨G3,by rw[A18];exact b1,by rw[A18];exact b2,fun b h=>b3 b (a3 b h),fun b h=> ?_,?_, .fn vs us (by rw[hn,a5]) (by rw[hm,b5]) (fun j av hj=>(a6 j av hj).2.ext b3 (fun _ _=>rfl) (C3.refl ob)) fun j av hj=>(b6 j av hj).2⟩
     ·rcases b4 b h with h |h
      ·exact a4 b h
      ·exact .inr h
     ·simp only[AV.pure,Bool.and_eq_true];exact⟨B5w fun j av hj=>(a6 j av hj).1,B5w fun j av hj=>(b6 j av hj).1⟩
   ·cases hf
 | .sc u,_,_,_,_,_,_,hf,_,hs,ha,hr=>B6t rfl hf hs ha hr
 | .dsl ..,_,_,_,_,_,_,hf,_,hs,ha,hr=>B6t rfl hf hs ha hr
 | .dslx ..,_,_,_,_,_,_,hf,_,hs,ha,hr=>B6t rfl hf hs ha hr
 | .fptr _,_,_,_,_,_,_,hf,_,hs,ha,hr=>B6t rfl hf hs ha hr
 | .mp _,_,_,_,_,_,_,hf,_,_,_,_=>by simp[E7]at hf
 | .agg _,_,_,_,_,_,_,hf,_,_,_,_=>by simp[E7]at hf
 | .tup _,_,_,_,_,_,_,hf,_,_,_,_=>by simp[E7]at hf
 | .own ..,_,_,_,_,_,_,hf,_,_,_,_=>by simp[E7]at hf
 | .hole,_,_,_,_,_,_,hf,_,_,_,_=>by simp[E7]at hf
theorem A52: ∀(cs cs':List AV) (p:Prop) (wr:List (Nat×A8)) (v:Nat→Value) (G:Nat→Prop) (m1:Nat→Option A8),O3 m cs=some (p,cs',wr)→p→
  C8 G w ob m1→A28 m m1→(∀(j:Nat) (av:AV),cs[j]? =some av→Rel G w ob av (v j))→
  ∃G2,C8 G2 w ob (wrm m1 wr)∧A28 m (wrm m1 wr)∧(∀b,G b→G2 b)∧(∀b,G2 b→G b∨N9 ob b)∧cs'.length=cs.length∧
   ∀(j:Nat) (av:AV),cs'[j]? =some av→av.pure=true∧Rel G2 w ob av (v j)
 | [],cs',p,wr,v,G,m1,hf,hp,hs,ha,hr=>by simp only[O3,Option.some.injEq,Prod.mk.injEq]at hf;obtain⟨_,rfl,rfl⟩:=hf;exact⟨G,hs,ha,fun _ h=>h,fun _ h=> .inl h,rfl,fun j av h=>by simp at h⟩
 |c::cs,cs',p,wr,v,G,m1,hf,hp,hs,ha,hr=>by
  simp only[O3]at hf;split at hf
  ·rename_i p1 c1 w1 q1 cs1 w2 h1 h2;simp only[Option.some.injEq,Prod.mk.injEq]at hf;obtain⟨rfl,rfl,rfl⟩:=hf;obtain⟨G2,a1,a2,a3,a4,a5,a6⟩:=B7k (v:=v 0) h1 hp.1 hs ha (hr 0 c (by simp));obtain⟨G3,b1,b2,b3,b4,b5,b6⟩:=A52 cs cs1 q1 w2 (fun j=>v (j+1)) G2 _ h2 hp.2 a1 a2 (fun j av hj=>(hr (j+1) av (by simpa using hj)).ext a3 (fun _ _=>rfl) (C3.refl ob));refine⟨G3,by rw[A18];exact b1,by rw[A18];exact b2,fun b h=>b3 b (a3 b h),fun b h=> ?_,by simp[b5],fun j av hj=> ?_⟩
   ·rcases b4 b h with h |h
    ·exact a4 b h
    ·exact .inr h
   ·cases j with
    |zero=>simp only[List.getElem?_cons_zero,Option.some.injEq]at hj;subst hj;exact⟨a5,a6.ext b3 (fun _ _=>rfl) (C3.refl ob)⟩
    |succ j=>simp only[List.getElem?_cons_succ]at hj;exact b6 j av hj
  ·cases hf
end
theorem A28.refl(m:Nat→Option A8):A28 m m:=fun _=> .inl rfl
theorem Fr.frozen {G':Nat→Prop}(h1: ∀b,G b→G' b)(h2: ∀b,G' b→G b∨N9 ob b):Fr G w ob G' w ob:=⟨Nat.le_refl _,fun _ _ _=>rfl,fun _ h=> .inl h,h1,fun b h=>(h2 b h).imp id (fun h=> .inr h),rfl,rfl,rfl,Nat.le_refl _⟩
theorem C2.after {G':Nat→Prop}{m':Nat→Option A8}{s:Sem Next}{r:Res}{wr:List (Nat×A8)}(h1: ∀b,G b→G' b)(h2: ∀b,G' b→G b∨N9 ob b)
  (hm:m'=wrm m wr)(h:C2 P G' w ob m' s r):C2 P G w ob m s ⟨r.val,wr++r.wr⟩:=by
 obtain⟨G2,w2,ob2,v,a1,a2,a3,a4,a5⟩:=h;refine⟨G2,w2,ob2,v,a1,?_,a3,a4,(Fr.frozen h1 h2).trans a5⟩;rw[A18,←hm];exact a2
theorem D3y {s:Sem Next}{id esz len:Nat}{g:Nat→List AV}{vs:Array Value}{T:TypeId}(hs:C8 G w ob m)(hid:m id=none)
  (hn:vs.size=len*esz)(hlen: ∀k,k<len→(g k).length=esz)
  (hrel: ∀(k j:Nat) (av:AV),k<len→(g k)[j]? =some av→av.pure=true∧Rel G w ob av (vs.getD (k*esz+j) undef))
  (h:s.run P w= .ok (.value (.slice (some ⟨w.heap.size,0,none⟩) len len)) (w.alloc (.cells vs T))):C2 P G w ob m s ⟨some (.sl id 0 len len),[(id, .arr esz ⟨len,g⟩)]⟩:=by
 have hno:ob id=none:=(hs.dom id).1 hid
 have hext:C3 ob (upd ob id (some ⟨some w.heap.size,esz,len,len, .cells⟩)):=fun x j hj=>by
  have hx:x≠id:=fun e=>by subst e;rw[hno]at hj;cases hj
  exact⟨j,by rw[E8 hx];exact hj, .inl rfl⟩
 have hGw: ∀b,G b→(w.alloc (.cells vs T)).heap[b]? =w.heap[b]? :=fun b hG=>heap_alloc_old _ _ _ (hs.lt b hG);refine C2.new (w0:=w) (i:=⟨some w.heap.size,esz,len,len, .cells⟩) hs hid rfl rfl rfl rfl h (fun b hb=>by simpa using hb.symm) ?_ ?_
 ·refine⟨rfl,rfl,rfl,Nat.le_refl _, .inr ⟨w.heap.size,vs,T,rfl,heap_alloc_new _ _,hn,hlen,fun k j av hk hj=> ?_⟩⟩;have hk:k<len:=hk;obtain⟨h1,h2⟩:=hrel k j av hk hj;refine⟨h1,vs.getD (k*esz+j) undef,?_,h2.ext (fun _ h=>h) hGw hext⟩;have hj':j<esz:=by
   rw[←hlen k hk];rcases Nat.lt_or_ge j (g k).length with h |h
   ·exact h
   ·rw[List.getElem?_eq_none h]at hj;cases hj
  have hlt:k*esz+j<vs.size:=by have:(k+1)*esz≤len*esz:=Nat.mul_le_mul_right _ (by omega);rw[Nat.add_mul]at this;omega
  simp[Array.getElem?_eq_getElem hlt]
 ·refine .sl ⟨some w.heap.size,esz,len,len, .cells⟩ (by simp) (Nat.le_refl _) ⟨_,_,rfl⟩ fun _=>⟨by simp,fun h=>by simp at h,fun b hb=> ?_⟩;simp only[Option.some.injEq]at hb;subst hb;exact⟨0,len,rfl,Nat.le_refl _,fun _=>by simp,fun _=>⟨rfl,rfl⟩⟩
theorem D80 {t el:TypeId}{len size:Nat}{z:Value}{C0:Array (Nat×Operand)}{ps:List (Nat×Nat×AX)}{ρ:Operand→Value}{e:AX→Option AV}{p:Prop}{r:Res}{d:Nat}
  (ht:P.underlying t=some (.slice el))(hz:(P.info? el).bind (·.zero)=some z)(hsz:P4 P el=some size)
  (hzs:z.cells.size=size)(hone:z.cells.all Value.oneCell'=true)(hsmall:len*size≤2^24)
  (hps:(C0.toList.mapM fun p=>match(some (p.1*size,size):Option (Nat×Nat)),cx p.2 with |some (o,s),some ax=>some (o,s,ax) |_,_=>none)=some ps)
  (hs:C8 G w ob m)(he:I8 G w ob ρ e)
  (hv:eval (.bslice size len ((Array.range (len*size)).map (z.cells[· %z.cells.size]!)).toList ps) e m d=some (p,r))(hp:p):
  C2 P G w ob m (do pure (.value (←Instr.buildSlice t len (C0.map fun(i,x)=>(i,ρ x))))) r:=by
 simp only[eval]at hv;cases hm:m (nid d)with
 |some o=>simp[hm]at hv
 |none=>
  generalize hZ:(Array.range (len*size)).map (z.cells[· %z.cells.size]!)=Z at hv;have hZone:Z.all Value.oneCell'=true:=by
   rw[Array.all_eq_true'];intro u hu;rw[←hZ,Array.mem_map]at hu;obtain⟨k,hk,rfl⟩:=hu;simp only[Array.mem_range]at hk;have hpos:0<z.cells.size:=by
    rcases Nat.eq_zero_or_pos size with h |h
    ·rw[h]at hk;simp at hk
    ·omega
   have hlt:=Nat.mod_lt k hpos;rw[getElem!_pos z.cells _ hlt];exact Array.all_eq_true'.1 hone _ (Array.getElem_mem hlt)
  cases hf:A21 e (Z.toList.map .sc) ps with
  |none=>simp[hm,hf]at hv
  |some cs=>
   simp only[hm,hf]at hv;split at hv
   case h_2=>cases hv
   rename_i p1 cs' wr hfr;simp only[Option.some.injEq,Prod.mk.injEq]at hv;obtain⟨rfl,rfl⟩:=hv;obtain⟨Z',h1,h2⟩:=C3i (place:=fun i=>some (i*size,size)) he C0.toList ps Z _ cs hps (C6w hZone) hf;have hlenZ:Z.size=len*size:=by rw[←hZ];simp
   have hZ'len:Z'.size=len*size:=by
    have key: ∀(l:List (Nat×Value)) (A B:Array Value),Instr.fill (fun i=>some (i*size,size)) A l=some B→B.size=A.size:=by
     intro l;induction l with
     |nil=>intro A B h;simp[Instr.fill]at h;rw[h]
     |cons x l ih=>
      intro A B h;obtain⟨i,v⟩:=x;simp only[Instr.fill]at h;split at h
      ·cases h
      ·rw[ih _ _ h,←Array.foldl_toList,Array.toList_zipIdx];exact(C0r v.cells.toList 0 (i*size) A 0).1
    rw[key _ _ _ h1,hlenZ]
   obtain⟨G2,a1,a2,a3,a4,a5,a6⟩:=A52 cs cs' p1 wr (fun j=>Z'.getD j undef) G m hfr hp hs (A28.refl m) (fun j av hj=>h2.2.2 j av hj);have hm2:wrm m wr (nid d)=none:=by
    rcases a2 (nid d)with h |⟨_,_,h,_⟩ |⟨_,h,_⟩
    ·rw[h,hm]
    ·rw[hm]at h;cases h
    ·rw[hm]at h;cases h
   have hrun:(Instr.buildSlice t len (C0.map fun(x:Nat×Operand)=>(x.1,ρ x.2))).run P w= .ok (.slice (some ⟨w.heap.size,0,none⟩) len len) (w.alloc (.cells Z' el)):=by
    have h1':Instr.fill (fun i=>some (i*size,size)) Z (C0.map fun(x:Nat×Operand)=>(x.1,ρ x.2)).toList=some Z':=by rw[Array.toList_map];exact h1
    have hns: ¬len*size>2^24:=by omega
    unfold Instr.buildSlice;simp only[Sem.run_bind,run_underlying ht,Result.andThen_ok,O8 hsz,if_neg hns];by_cases h0:len*size=0
    ·have hZ0:Z= #[]:=Array.eq_empty_of_size_eq_zero (by omega)
     rw[hZ0]at h1';simp only[h0,if_true,Sem.run_pure,Result.andThen_ok,Array.range_zero',Array.map_empty,h1',newRow,Sem.run_bind,run_newObj];simp
    ·simp only[h0,if_false,Sem.run_bind,A6w hz,Result.andThen_ok,Sem.run_pure,hZ,h1',newRow,run_newObj];simp
   refine C2.after (m':=wrm m wr) a3 a4 rfl (D3y (T:=el) a1 hm2 hZ'len (fun k hk=> ?_) (fun k j av hk hj=> ?_) ?_)
   ·have hl2:cs'.length=len*size:=by rw[a5,←h2.1,hZ'len]
    simp only[List.length_take,List.length_drop,hl2];have:(k+1)*size≤len*size:=Nat.mul_le_mul_right _ (by omega);rw[Nat.add_mul]at this;omega
   ·rw[List.getElem?_take]at hj;split at hj
    ·rw[List.getElem?_drop]at hj;exact a6 _ av hj
    ·cases hj
   ·simp[hrun]
theorem S0 {b:Nat}{arr cs:Array Value}{T:TypeId}{fz:Nat×Nat}(h:w.heap[b]? =some (.cells arr T fz)):(w.setRow b cs).heap[b]? =some (.cells cs T fz):=setRow_heap w b arr cs T fz h
def stored(arr:Array Value)(o:Nat)(vs:List Value):Array Value:=(arr.toList.take o++vs++arr.toList.drop (o+vs.length)).toArray
theorem A02(arr:Array Value)(o:Nat)(vs:List Value)(h:o+vs.length≤arr.size):(stored arr o vs).size=arr.size:=by simp only[stored,List.size_toArray,List.length_append,List.length_take,List.length_drop,Array.length_toList];omega
theorem A12(arr:Array Value)(o:Nat)(vs:List Value)(h:o+vs.length≤arr.size)(q:Nat):
  (stored arr o vs)[q]? =if o≤q∧q<o+vs.length then vs[q-o]? else arr[q]? :=by
 have hn:(arr.toList.take o).length=o:=by simp;omega
 simp only[stored,List.getElem?_toArray];by_cases h1:q<o
 ·rw[List.append_assoc,List.getElem?_append_left (by omega),if_neg (by omega),List.getElem?_take,if_pos h1];simp
 ·by_cases h2:q<o+vs.length
  ·rw[List.append_assoc,List.getElem?_append_right (by omega),hn,List.getElem?_append_left (by omega),if_pos ⟨by omega,h2⟩]
  ·rw[List.append_assoc,List.getElem?_append_right (by omega),hn,List.getElem?_append_right (by omega),if_neg (by omega),List.getElem?_drop];simp;congr 1;omega
theorem A9a {t:TypeId}{n:Nat}{b o:Nat}{arr:Array Value}{T:TypeId}{v:Value}(hsz:P4 P t=some n)(hn:v.cells.size=n)
  (hg:w.heap[b]? =some (.cells arr T (0,0)))(hl:o+n≤arr.size)(hone: ∀u∈v.cells.toList,u.oneCell'=true):
  (Instr.storeAt t (.pointer (some ⟨b,o,none⟩)) v).run P w= .ok () (w.setRow b (stored arr o v.cells.toList)):=by
 have hst:=run_storeCells_at (P:=P) b o T v.cells.toList 0 arr w hg (by simp;omega) hone;simp only[Nat.add_zero]at hst;simp[Instr.storeAt,Instr.sureAddr,storeVar,O8 hsz,hn,hst,stored]
theorem B0j {vs:Array Value}{cs:List AV}(hn:vs.size=cs.length)(hone: ∀(j:Nat) (av:AV),cs[j]? =some av→av.one=true)
  (hrel: ∀(j:Nat) (av:AV),cs[j]? =some av→Rel G w ob av (vs.getD j undef)): ∀u∈vs.toList,u.oneCell'=true:=by
 intro u hu;obtain⟨j,hj⟩:=List.getElem?_of_mem hu;have hlt:j<cs.length:=by
  rw[←hn];rcases Nat.lt_or_ge j vs.size with h |h
  ·exact h
  ·rw[List.getElem?_eq_none (by simpa using h)]at hj;cases hj
 have h1:=hrel j cs[j] (List.getElem?_eq_getElem hlt)
 have h2:vs.getD j undef=u:=by simp at hj;simp[hj]
 rw[h2]at h1;exact h1.one_cell (hone j _ (List.getElem?_eq_getElem hlt))
theorem PAt.stored {w':World}{ob':Place}{id k o n z:Nat}{s:Sq}{i:H4}{p:Nat→Prop}{b:Nat}{arr:Array Value}{T:TypeId}{β β':Nat→Nat→Option Nat}{cs':List AV}{news:List Value}
  (h:PAt G w ob id z s i p b arr T β)(hk:k<s.n)(hoz:o+n≤z)(hlen:cs'.length=n)(hnews:news.length=n)
  (hβ: ∀q j,¬(q=k∧o≤j∧j<o+n)→β' q j=β q j)
  (hnew: ∀(j:Nat) (av:AV),cs'[j]? =some av→ ∃v,news[j]? =some v∧A51 G w' ob' (β' k (o+j)) av v)
  (hob:C3 ob ob')(hG: ∀x,G x→w'.heap[x]? =w.heap[x]?)(hp: ∀x,p x→w'.heap[x]? =w.heap[x]?):
  k*z+o+news.length≤arr.size∧A3u G w' ob' (stored arr (k*z+o) news) z (s.set k (M3 (s.g k) o cs')) β':=by
 have hcap:(k+1)*z≤i.cap*z:=Nat.mul_le_mul_right _ (Nat.le_trans hk h.cap)
 have hfit:k*z+o+news.length≤arr.size:=by rw[h.size,hnews];rw[Nat.add_mul]at hcap;omega
 have hgk:(s.g k).length=z:=h.row.1 k hk;refine⟨hfit,fun q hq=> ?_,fun q j av hq hj=> ?_⟩
 ·simp only[Sq.set];split
  ·rw[A4v _ _ _ (by omega),hgk]
  ·exact h.row.1 q hq
 ·simp only[Sq.set]at hq hj;rw[A12 _ _ _ hfit,hnews];have old: ∀c,(s.g q)[j]? =some c→ ¬(q=k∧o≤j∧j<o+n)→ ∃v,arr[q*z+j]? =some v∧A51 G w' ob' (β' q j) c v:=fun c hc hne=>by
   obtain⟨v,hv,hcl⟩:=h.row.2 q j c hq hc;refine⟨v,hv,?_⟩;rw[hβ q j hne];refine hcl.ext (fun _ h=>h) hG hob fun x hx=>hp x (h.bl.sub q j x hq ?_ hx);rw[←h.row.1 q hq];rcases Nat.lt_or_ge j (s.g q).length with h |h
   ·exact h
   ·rw[List.getElem?_eq_none h]at hc;cases hc
  by_cases hqk:q=k
  ·subst hqk;rw[if_pos rfl,getElem?_splice _ _ _ _ (by omega)]at hj;split at hj
   ·rename_i hqq;obtain⟨v,hv,hcl⟩:=hnew _ av hj;rw[if_pos ⟨by omega,by omega⟩];have e1:q*z+j-(q*z+o)=j-o:=by omega
    have e2:o+(j-o)=j:=by omega
    rw[e1];rw[e2]at hcl;exact⟨v,hv,hcl⟩
   ·rename_i hqq;rw[if_neg (by omega)];exact old av hj (by omega)
  ·rw[if_neg hqk]at hj;have hjl:j<z:=by
    rw[←h.row.1 q hq];rcases Nat.lt_or_ge j (s.g q).length with h |h
    ·exact h
    ·rw[List.getElem?_eq_none h]at hj;cases hj
   have hout: ¬(k*z+o≤q*z+j∧q*z+j<k*z+o+n):=by
    rintro⟨e1,e2⟩;rcases Nat.lt_or_ge q k with hlt |hge
    ·have:(q+1)*z≤k*z:=Nat.mul_le_mul_right _ hlt
     rw[Nat.add_mul]at this;omega
    ·have:(k+1)*z≤q*z:=Nat.mul_le_mul_right _ (by omega)
     rw[Nat.add_mul]at this;omega
   rw[if_neg hout];exact old av hj (fun e=>hqk e.1)
theorem D81 {t:TypeId}{n:Nat}{ρx ρy:Value}{p:Prop}{r:Res}{id k o tot z:Nat}{s:Sq}{v:AV}
  (hsz:P4 P t=some n)(hs:C8 G w ob m)(hm:m id=some (.arrP z s))(hr:Rel G w ob (.ptr id k o tot) ρx)(hr2:Rel G w ob v ρy)
  (hv:B46 m id k o tot z s n v=some (p,r))(hp:p):
  C2 P G w ob m (do Instr.storeAt t ρx ρy;pure Next.skip) r:=by
 have hother: ∀ {b:Nat} {row:Array Value} (q:Nat),q≠b→(w.setRow b row).heap[q]? =w.heap[q]? :=fun q hq=>setRow_other w _ q _ hq;by_cases hsl: ∃id' off len tot',v= .sl id' off len tot'
 ·obtain⟨id',off,len,tot',rfl⟩:=hsl;simp only[B46]at hv;split at hv
  case h_2=>cases hv
  rename_i z' s' hm';split at hv
  case isFalse=>cases hv
  rename_i hc;obtain⟨rfl,hne⟩:=hc;simp only[Option.some.injEq,Prod.mk.injEq]at hv;obtain⟨rfl,rfl⟩:=hv;obtain⟨ht,hoz,rfl,rfl,rfl⟩:=hp;obtain⟨i,pp,b,arr,T,β,hA,rfl,hk⟩:=B2m hs hm hr ht;obtain rfl:i.esz=z:=hA.esz;have hp': ∀x,i.has x↔i.blk=some x∨pp x:=fun x=>H4.has_priv hA.kind x;cases hr2 with
  |sl i' hi' hle hss hvv=>
   obtain⟨hk',hz',hl',hc',hrow'⟩:=hs.own id' _ i' hm' hi';obtain⟨_,hvn,hvs⟩:=hvv (by rw[hl']);have hone:ρy.oneCell'=true:=by obtain⟨a,c,rfl⟩:=hss;rfl
   have hcells:ρy.cells= #[ρy]:=by obtain⟨a,c,rfl⟩:=hss;rfl
   have hbne:i'.blk≠some b:=fun e=>hne (hs.inj _ _ _ _ b hi' hA.hi (.inl e) (.inl hA.blk))
   have hpne: ∀x,i'.blk=some x→ ¬pp x:=fun x e hx=>hne (hs.inj _ _ _ _ x hi' hA.hi (.inl e) ((hp' x).2 (.inr hx)))
   have hnG: ¬G b:=hs.sep id _ i b hm rfl hA.hi (.inl hA.blk)
   have hGw: ∀x,G x→(w.setRow b (stored arr (k*i.esz+o) [ρy])).heap[x]? =w.heap[x]? :=fun x hx=>hother x (fun e=>hnG (e▸hx))
   have hob:C3 ob (upd (upd ob id (some {i with kind:= .priv fun x=>(pp x∧β k o≠some x)∨i'.blk=some x})) id' (some ⟨none,0,i'.len+1,0, .cells⟩)):=fun q j hj=>by
    by_cases hq:q=id'
    ·subst hq;rw[hi']at hj;injection hj with hj;subst hj;exact⟨_,by simp;rfl, .inr (.inr ⟨by simp,by rw[hk'];simp⟩)⟩
    ·rw[E8 hq];by_cases hq2:q=id
     ·subst hq2;rw[hA.hi]at hj;injection hj with hj;subst hj;exact⟨_,by simp;rfl, .inr (.inl ⟨pp,_,hA.kind,rfl⟩)⟩
     ·exact⟨j,by rw[E8 hq2];exact hj, .inl rfl⟩
   obtain⟨hfit,hrow⟩:=hA.stored (k:=k) (o:=o) (w':=w.setRow b (stored arr (k*i.esz+o) [ρy])) (n:=1) (cs':= [.own z' s'.n s'.g]) (news:= [ρy]) (β':=fun q j=>if q=k∧j=o then i'.blk else β q j) hk (by omega) rfl rfl
    (fun q j hq=>by rw[if_neg];rintro⟨rfl,rfl⟩;exact hq ⟨rfl,by omega,by omega⟩)
    (fun j av hj=>by
      cases j with
      |succ j=>simp at hj
      |zero=>
       simp only[List.getElem?_cons_zero,Option.some.injEq]at hj;subst hj;refine⟨ρy,rfl,?_⟩;simp only[Nat.add_zero,and_self,if_true];rcases hrow' with⟨h1,h2,_⟩ |⟨b2,arr2,T2,h1,h2,h3,h4⟩
       ·exact .inl ⟨h1,h2,hvn h1⟩
       ·obtain⟨o2,c2,rfl,h5,_,h6⟩:=hvs b2 h1;obtain⟨rfl,rfl⟩:=h6 rfl;refine .inr ⟨b2,i'.cap,arr2,T2,h1,hc',rfl,?_,by rw[h3,hz'],?_⟩
        ·rw[hother (b:=b) b2 (fun e=>hbne (by rw[h1,e]))];exact h2
        ·rw[←hz'];exact h4.ext (fun _ h=>h) hGw hob)
    hob hGw (fun x hx=>hother x (fun e=>hA.bl.ne (e▸hx)))
   have hrun:=A9a (P:=P) (v:=ρy) (o:=k*i.esz+o) hsz (by rw[hcells];rfl) hA.heap (by simpa using hfit) (by intro u hu;rw[hcells]at hu;rw[show u=ρy by simpa using hu];exact hone);obtain⟨a1,a2,a3⟩:=hs.update2 (w':=w.setRow b (stored arr (k*i.esz+o) [ρy])) id id' (fun e=>hne e.symm) (.arrP i.esz (s.set k (M3 (s.g k) o [.own z' s'.n s'.g]))) .gone
    {i with kind:= .priv fun x=>(pp x∧β k o≠some x)∨i'.blk=some x} ⟨none,0,i'.len+1,0, .cells⟩ (by simp)
    (fun x _ h1 _=>hother x fun e=>h1 i hA.hi (.inl (by rw[hA.blk,e]))) hGw
    (fun j hj=>by rw[hA.hi]at hj;injection hj with hj;subst hj;exact .inr (.inl ⟨pp,_,hA.kind,rfl⟩))
    (fun j hj=>by rw[hi']at hj;injection hj with hj;subst hj;exact .inr (.inr ⟨by simp,by rw[hk'];simp⟩))
    (fun x hx=>by
      rcases hx with hx |hx |hx
      ·exact .inl ⟨i,hA.hi, .inl hx⟩
      ·exact .inl ⟨i,hA.hi,(hp' x).2 (.inr hx.1)⟩
      ·exact .inr ⟨i',hi', .inl hx⟩)
    (fun x hx=>by have:=H4.has_plain (.inl rfl) hx;cases this)
    (fun x _ hx=>by have:=H4.has_plain (.inl rfl) hx;cases this)
    (by
      refine⟨rfl,hA.len,hA.cap,_,rfl, .inr ⟨b,_,T,fun q j=>if q=k∧j=o then i'.blk else β q j,hA.blk,S0 hA.heap,by rw[A02 _ _ _ hfit];exact hA.size,hrow,?_⟩⟩;refine⟨fun q j x hq hj hx=> ?_,fun x hx=> ?_,fun q j q' j' x hq hj hq' hj' hx hx'=> ?_,fun hx=> ?_⟩
      ·split at hx
       ·exact .inr hx
       ·rename_i hne2;exact .inl ⟨hA.bl.sub q j x hq hj hx,fun e=>hne2 (hA.bl.inj q j k o x hq hj hk (by omega) hx e)⟩
      ·rcases hx with hx |hx
       ·obtain⟨q,j,hq,hj,hx2⟩:=hA.bl.all x hx.1;refine⟨q,j,hq,hj,?_⟩;rw[if_neg]
        ·exact hx2
        ·rintro⟨rfl,rfl⟩;exact hx.2 hx2
       ·exact⟨k,o,hk,by omega,by simp[hx]⟩
      ·split at hx <;> split at hx'
       ·rename_i e1 e2;exact⟨by rw[e1.1,e2.1],by rw[e1.2,e2.2]⟩
       ·exact(hpne x hx (hA.bl.sub _ _ x hq' hj' hx')).elim
       ·exact(hpne x hx' (hA.bl.sub _ _ x hq hj hx)).elim
       ·exact hA.bl.inj q j q' j' x hq hj hq' hj' hx hx'
      ·rcases hx with hx |hx
       ·exact hA.bl.ne hx.1
       ·exact hbne hx)
    ⟨rfl,rfl⟩
    (fun _ x hx=>by
      rcases hx with hx |hx |hx
      ·exact hs.sep id _ i x hm rfl hA.hi (.inl hx)
      ·exact hs.sep id _ i x hm rfl hA.hi ((hp' x).2 (.inr hx.1))
      ·exact hs.sep id' _ i' x hm' rfl hi' (.inl hx))
    (fun _ x hx=>by have:=H4.has_plain (.inl rfl) hx;cases this)
   refine⟨G,w.setRow b (stored arr (k*i.esz+o) [ρy]),_,undef, .inr ⟨?_,rfl⟩,a1,(fun _ hh=>by cases hh),a2,Fr.of_heap (by simp) (fun x hx hc=> ?_) (fun x hx=> .inl (a3 x hx)) rfl rfl rfl⟩
   ·rw[hcells]at hrun;simp[hrun]
   ·refine hother x fun e=> ?_;subst e;rcases hc with hc |hc
    ·exact hnG hc
    ·exact hc ⟨id,i,hA.hi, .inl hA.blk⟩
 ·have h2:v.cells.all AV.pure=true∧v.cells.length=n∧p=(tot=s.n∧o+n≤z)∧r=⟨none,[(id, .arrP z (s.set k (M3 (s.g k) o v.cells)))]⟩:=by
   cases v with
   |sl id' off len tot'=>exact absurd ⟨_,_,_,_,rfl⟩ hsl
   |_=>
    simp only[B46]at hv;split at hv
    ·rename_i hc;simp only[Option.some.injEq,Prod.mk.injEq]at hv;exact⟨hc.1,hc.2,hv.1.symm,hv.2.symm⟩
    ·cases hv
  obtain⟨hpure,hcl,rfl,rfl⟩:=h2;obtain⟨ht,hoz⟩:=hp;obtain⟨i,pp,b,arr,T,β,hA,rfl,hk⟩:=B2m hs hm hr ht;obtain rfl:i.esz=z:=hA.esz;have hp': ∀x,i.has x↔i.blk=some x∨pp x:=fun x=>H4.has_priv hA.kind x
  have hnt: ∀l,v≠ .tup l:=fun l hl=>by subst hl;simp[AV.cells,AV.pure]at hpure
  obtain⟨g1,g2,g3⟩:=A91 hr2 hnt;have hnG: ¬G b:=hs.sep id _ i b hm rfl hA.hi (.inl hA.blk)
  have hGw: ∀x,G x→(w.setRow b (stored arr (k*i.esz+o) ρy.cells.toList)).heap[x]? =w.heap[x]? :=fun x hx=>hother x (fun e=>hnG (e▸hx))
  have hob:C3 ob (upd ob id (some {i with kind:= .priv fun x=>pp x∧ ∀j,o≤j→j<o+n→β k j≠some x})):=fun q j hj=>by
   by_cases hq2:q=id
   ·subst hq2;rw[hA.hi]at hj;injection hj with hj;subst hj;exact⟨_,by simp;rfl, .inr (.inl ⟨pp,_,hA.kind,rfl⟩)⟩
   ·exact⟨j,by rw[E8 hq2];exact hj, .inl rfl⟩
  have hcn:ρy.cells.size=n:=by rw[g1,hcl]
  obtain⟨hfit,hrow⟩:=hA.stored (k:=k) (o:=o) (w':=w.setRow b (stored arr (k*i.esz+o) ρy.cells.toList)) (n:=n) (cs':=v.cells) (news:=ρy.cells.toList) (β':=fun q j=>if q=k∧o≤j∧j<o+n then none else β q j) hk hoz hcl (by simpa using hcn)
   (fun q j hq=>by rw[if_neg hq])
   (fun j av hj=>by
     have hjn:j<n:=by
      rw[←hcl];rcases Nat.lt_or_ge j v.cells.length with h |h
      ·exact h
      ·rw[List.getElem?_eq_none h]at hj;cases hj
     refine⟨ρy.cells.getD j undef,?_,?_⟩
     ·have hlt:j<ρy.cells.size:=by omega
      simp[Array.getElem?_eq_getElem hlt]
     ·rw[if_pos ⟨rfl,by omega,by omega⟩];have hpu:av.pure=true:=List.all_eq_true.1 hpure av (List.mem_of_getElem? hj)
      have hrel:=(g3 j av hj).ext (G':=G) (w':=w.setRow b (stored arr (k*i.esz+o) ρy.cells.toList)) (fun _ h=>h) hGw hob;cases av with
      |own=>simp[AV.pure]at hpu
      |hole=>simp[AV.pure]at hpu
      |_=>exact⟨hpu,rfl,hrel⟩)
   hob hGw (fun x hx=>hother x (fun e=>hA.bl.ne (e▸hx)))
  have hrun:=A9a (P:=P) (v:=ρy) (o:=k*i.esz+o) hsz hcn hA.heap (by simpa[hcn]using hfit) (B0j g1 g2 g3)
  have hi1: ∀x,({i with kind:= .priv fun x=>pp x∧ ∀j,o≤j→j<o+n→β k j≠some x}:H4).has x↔i.blk=some x∨(pp x∧ ∀j,o≤j→j<o+n→β k j≠some x):=fun x=>Iff.rfl;obtain⟨s1,s2,s3⟩:=hs.updateP (w':=w.setRow b (stored arr (k*i.esz+o) ρy.cells.toList)) id (.arrP i.esz (s.set k (M3 (s.g k) o v.cells))) {i with kind:= .priv fun x=>pp x∧ ∀j,o≤j→j<o+n→β k j≠some x} (by simp)
   (fun x _ h1=>hother x fun e=>h1 i hA.hi (.inl (by rw[hA.blk,e])))
   (fun j hj=>by rw[hA.hi]at hj;injection hj with hj;subst hj;exact .inr (.inl ⟨pp,_,hA.kind,rfl⟩))
   (fun x hx=> .inl ⟨i,hA.hi,(hp' x).2 (((hi1 x).1 hx).imp (fun h=>h) (·.1))⟩)
   (fun j hj x hx hG=>hGw x hG)
   (by
     refine⟨rfl,hA.len,hA.cap,_,rfl, .inr ⟨b,_,T,fun q j=>if q=k∧o≤j∧j<o+n then none else β q j,hA.blk,S0 hA.heap,by rw[A02 _ _ _ hfit];exact hA.size,hrow,?_⟩⟩;refine⟨fun q j x hq hj hx=> ?_,fun x hx=> ?_,fun q j q' j' x hq hj hq' hj' hx hx'=> ?_,fun hx=>hA.bl.ne hx.1⟩
     ·split at hx
      ·cases hx
      ·rename_i hne2;exact⟨hA.bl.sub q j x hq hj hx,fun j2 h1 h2 e=>hne2 (by obtain⟨rfl,rfl⟩:=hA.bl.inj q j k j2 x hq hj hk (by omega) hx e;exact⟨rfl,h1,h2⟩)⟩
     ·obtain⟨q,j,hq,hj,hx2⟩:=hA.bl.all x hx.1;refine⟨q,j,hq,hj,?_⟩;rw[if_neg]
      ·exact hx2
      ·rintro⟨rfl,h1,h2⟩;exact hx.2 j h1 h2 hx2
     ·split at hx
      ·cases hx
      ·split at hx'
       ·cases hx'
       ·exact hA.bl.inj q j q' j' x hq hj hq' hj' hx hx')
   (fun _ x hx=>hs.sep id _ i x hm rfl hA.hi ((hp' x).2 (((hi1 x).1 hx).imp (fun h=>h) (·.1))))
  refine⟨G,w.setRow b (stored arr (k*i.esz+o) ρy.cells.toList),_,undef, .inr ⟨by simp[hrun],rfl⟩,s1,(fun _ hh=>by cases hh),s2,Fr.of_heap (by simp) (fun x hx hc=> ?_) s3 rfl rfl rfl⟩;refine hother x fun e=> ?_;subst e;rcases hc with hc |hc
  ·exact hnG hc
  ·exact hc ⟨id,i,hA.hi, .inl hA.blk⟩
theorem E0e {t:TypeId}{n:Nat}{ρ:Operand→Value}{e:AX→Option AV}{x y:Operand}{ax ay:AX}{p:Prop}{r:Res}{d:Nat}
  (hsz:P4 P t=some n)
  (hs:C8 G w ob m)(hx:cx x=some ax)(hy:cx y=some ay)(he:I8 G w ob ρ e)(hv:eval (.store n ax ay) e m d=some (p,r))(hp:p):
  C2 P G w ob m (do Instr.storeAt t (ρ x) (ρ y);pure .skip) r:=by
 simp only[eval]at hv;cases hax:e ax with
 |none=>simp[hax]at hv
 |some a=>
  cases hay:e ay with
  |none=>cases a <;> simp[hax,hay]at hv
  |some v=>
   have hr:=he x ax a hx hax
   have hr2:=he y ay v hy hay;rw[hax,hay]at hv;cases a with
   |ptr id k o tot=>
    simp only at hv;generalize ρ x=vx at hr;cases hr with
    |ptr ad i h hle hvv=>
     cases hm:m id with
     |none=>simp[hm]at hv
     |some obj=>
      have ho:=hs.own id obj i hm h;rw[hm]at hv;cases obj with
      |box cs=>
       simp only at hv;split at hv
       case isFalse=>cases hv
       rename_i hc;obtain⟨hc1,hc2,hc3⟩:=hc;simp only[Option.some.injEq,Prod.mk.injEq]at hv;obtain⟨rfl,rfl⟩:=hv;obtain⟨rfl,rfl⟩:=hp;obtain⟨hmap,h1,h2,b,arr,T,h3,h4,h5,h6⟩:=ho;obtain⟨b',h7,h8,_⟩:=hvv h1;rw[h3]at h7;injection h7 with h7;subst h7;simp only[Nat.zero_mul,Nat.zero_add]at h8;subst h8;have hnt: ∀l,v≠ .tup l:=fun l hl=>by subst hl;simp[AV.cells,AV.one]at hc3
       obtain⟨g1,g2,g3⟩:=A91 hr2 hnt;have hrun:=A9a (P:=P) (v:=ρ y) (o:=o) hsz (by rw[g1,hc1]) h4 (by rw[h5];exact hc2) (B0j g1 g2 g3)
       have hsize:=A02 arr o (ρ y).cells.toList (by simp[g1,hc1,h5];exact hc2)
       have hnG: ¬G b:=hs.sep id _ i b hm rfl h (.inl h3)
       have hhold: ∀k,k≠b→(w.setRow b (stored arr o (ρ y).cells.toList)).heap[k]? =w.heap[k]? :=fun k hk=>setRow_other w b k _ hk
       have hGw: ∀b',G b'→(w.setRow b (stored arr o (ρ y).cells.toList)).heap[b']? =w.heap[b']? :=fun b' hG=>hhold b' (fun e=>hnG (e▸hG))
       have hup:upd ob id (some i)=ob:=A0u h
       have hob:C3 ob (upd ob id (some i)):=by rw[hup];exact C3.refl ob
       obtain⟨s1,s2,s3⟩:=hs.update (w':=w.setRow b (stored arr o (ρ y).cells.toList)) id (.box (M3 cs o v.cells)) i (by simp)
        (fun b' _ hne=>hhold b' (fun e=>hne i h (by rw[h3,e]))) (fun j hj=>by rw[h]at hj;injection hj with hj;exact .inl hj)
        (fun b' hb'=> .inl ⟨i,h,hb'⟩) (fun j hj b' hb' hG=>hGw b' hG)
        ⟨hmap,h1,by rw[h2,A4v _ _ _ (by omega)],b,_,T,h3,S0 h4,by rw[hsize,h5,A4v _ _ _ (by omega)],fun j av hj=>by
          rw[getElem?_splice _ _ _ _ (by omega)]at hj;rw[A12 _ _ _ (by simp[g1,hc1,h5];exact hc2)];simp only[Array.length_toList,g1];split at hj
          ·rename_i hq;rw[if_pos hq];refine⟨g2 _ av hj,(ρ y).cells.getD (j-o) undef,?_,(g3 _ av hj).ext (fun _ h=>h) hGw hob⟩;have hlt:j-o<(ρ y).cells.size:=by rw[g1];omega
           simp[Array.getElem?_eq_getElem hlt]
          ·rename_i hq;rw[if_neg hq];obtain⟨h10,u,h11,h12⟩:=h6 j av hj;exact⟨h10,u,h11,h12.ext (fun _ h=>h) hGw hob⟩⟩
        (fun _ b' hb'=>by rw[h3]at hb';injection hb' with hb';exact hb'▸hnG) (fun o0 h0=>by rw[hm]at h0;cases h0;rfl)
       refine⟨G,w.setRow b (stored arr o (ρ y).cells.toList),_,undef, .inr ⟨by simp[hrun],rfl⟩,s1,(fun _ hh=>by cases hh),s2,Fr.of_heap (by simp) (fun b' hb' hc=> ?_) s3 rfl rfl rfl⟩;refine hhold b' fun e=> ?_;subst e;rcases hc with hc |hc
       ·exact hnG hc
       ·exact hc ⟨id,i,h, .inl h3⟩
      |arr z s=>
       simp only at hv;split at hv
       case h_2=>cases hv
       rename_i p1 cs' wr hfr;simp only[Option.some.injEq,Prod.mk.injEq]at hv;obtain⟨rfl,rfl⟩:=hv;obtain⟨hp1,ht,hcl,hoz,hwr⟩:=hp;have hnt: ∀l,v≠ .tup l:=fun l hl=>by subst hl;simp[AV.cells,O3,E7,AV.pure]at hfr
       obtain⟨g1,g2,g3⟩:=A91 hr2 hnt;obtain⟨G2,a1,a2,a3,a4,a5,a6⟩:=A52 v.cells cs' p1 wr (fun j=>(ρ y).cells.getD j undef) G m hfr hp1 hs (A28.refl m) g3;have hm2:wrm m wr id=some (.arr z s):=by
        have key: ∀(l:List (Nat×A8)) (f:Nat→Option A8),(l.all fun x=>x.1 != id)=true→wrm f l id=f id:=by
         intro l;induction l with
         |nil=>intro f _;rfl
         |cons x l ih=>intro f hl;simp only[List.all_cons,Bool.and_eq_true,bne_iff_ne,ne_eq]at hl;show wrm (upd f x.1 (some x.2)) l id=f id;rw[ih _ hl.2,E8 (fun e=>hl.1 e.symm)]
        rw[key wr m hwr,hm]
       have ho2:=a1.own id _ i hm2 h;obtain⟨hmap,hz1,h1,h2,h3⟩:=ho2;obtain⟨b',h7,h8,h9⟩:=hvv (by rw[h1,ht]);rcases h3 with⟨h3,_⟩ |⟨b,arr,T,h3,h4,h5,h6⟩
       ·rw[h3]at h7;cases h7
       ·rw[h3]at h7;injection h7 with h7;subst h7;subst h8;have hks:k<s.n:=by omega
        have hcap:(k+1)*i.esz≤i.cap*i.esz:=Nat.mul_le_mul_right _ (by omega)
        have hfit:k*i.esz+o+n≤arr.size:=by rw[h5];rw[Nat.add_mul]at hcap;omega
        have hcn:(ρ y).cells.size=n:=by rw[g1,←a5,hcl]
        have hrun:=A9a (P:=P) (v:=ρ y) (o:=k*i.esz+o) hsz hcn h4 hfit (B0j g1 g2 g3)
        have hsize:=A02 arr (k*i.esz+o) (ρ y).cells.toList (by simp[hcn];exact hfit)
        have hnG: ¬G2 b:=a1.sep id _ i b hm2 rfl h (.inl h3)
        have hhold: ∀q,q≠b→(w.setRow b (stored arr (k*i.esz+o) (ρ y).cells.toList)).heap[q]? =w.heap[q]? :=fun q hk=>setRow_other w b q _ hk
        have hGw: ∀b',G2 b'→(w.setRow b (stored arr (k*i.esz+o) (ρ y).cells.toList)).heap[b']? =w.heap[b']? :=fun b' hG=>hhold b' (fun e=>hnG (e▸hG))
        have hup:upd ob id (some i)=ob:=A0u h
        have hob:C3 ob (upd ob id (some i)):=by rw[hup];exact C3.refl ob
        have hgk:(s.g k).length=i.esz:=h6.1 k hks
        have hrow:A5x G2 (w.setRow b (stored arr (k*i.esz+o) (ρ y).cells.toList)) (upd ob id (some i)) (stored arr (k*i.esz+o) (ρ y).cells.toList) i.esz (s.set k (M3 (s.g k) o cs')):=by
         refine⟨fun q hq=> ?_,fun q j av hq hj=> ?_⟩
         ·simp only[Sq.set];split
          ·rw[A4v _ _ _ (by omega),hgk]
          ·exact h6.1 q hq
         ·simp only[Sq.set]at hq hj;rw[A12 _ _ _ (by simp[hcn];exact hfit)];simp only[Array.length_toList,hcn];by_cases hqk:q=k
          ·subst hqk;rw[if_pos rfl,getElem?_splice _ _ _ _ (by omega)]at hj;split at hj
           ·rename_i hqq;obtain⟨c1,c2⟩:=a6 _ av hj;rw[if_pos ⟨by omega,by omega⟩];refine⟨c1,(ρ y).cells.getD (j-o) undef,?_,c2.ext (fun _ h=>h) hGw hob⟩;have hlt:j-o<(ρ y).cells.size:=by omega
            have e1:q*i.esz+j-(q*i.esz+o)=j-o:=by omega
            rw[e1];simp[Array.getElem?_eq_getElem hlt]
           ·rename_i hqq;rw[if_neg (by omega)];obtain⟨c1,u,c2,c3⟩:=h6.2 q j av hq hj;exact⟨c1,u,c2,c3.ext (fun _ h=>h) hGw hob⟩
          ·rw[if_neg hqk]at hj;obtain⟨c1,u,c2,c3⟩:=h6.2 q j av hq hj;have hjl:j<i.esz:=by
            rw[←h6.1 q hq];rcases Nat.lt_or_ge j (s.g q).length with h |h
            ·exact h
            ·rw[List.getElem?_eq_none h]at hj;cases hj
           have hout: ¬(k*i.esz+o≤q*i.esz+j∧q*i.esz+j<k*i.esz+o+n):=by
            rintro⟨e1,e2⟩;rcases Nat.lt_or_ge q k with hlt |hge
            ·have:(q+1)*i.esz≤k*i.esz:=Nat.mul_le_mul_right _ hlt
             rw[Nat.add_mul]at this;omega
            ·have:(k+1)*i.esz≤q*i.esz:=Nat.mul_le_mul_right _ (by omega)
             rw[Nat.add_mul]at this;omega
           rw[if_neg hout];exact⟨c1,u,c2,c3.ext (fun _ h=>h) hGw hob⟩
        obtain⟨s1,s2,s3⟩:=a1.update (w':=w.setRow b (stored arr (k*i.esz+o) (ρ y).cells.toList)) id (.arr z (s.set k (M3 (s.g k) o cs'))) i (by simp)
         (fun b' _ hne=>hhold b' (fun e=>hne i h (by rw[h3,e]))) (fun j hj=>by rw[h]at hj;injection hj with hj;exact .inl hj)
         (fun b' hb'=> .inl ⟨i,h,hb'⟩) (fun j hj b' hb' hG=>hGw b' hG)
         ⟨hmap,hz1,h1,h2, .inr ⟨b,_,T,h3,S0 h4,by rw[hsize,h5],hrow⟩⟩
         (fun _ b' hb'=>by rw[h3]at hb';injection hb' with hb';exact hb'▸hnG) (fun o0 h0=>by rw[hm2]at h0;cases h0;rfl)
        refine C2.after (r:=⟨none,[(id, .arr z (s.set k (M3 (s.g k) o cs')))]⟩) (m':=wrm m wr) a3 a4 rfl
         ⟨G2,w.setRow b (stored arr (k*i.esz+o) (ρ y).cells.toList),_,undef, .inr ⟨by simp[hrun],rfl⟩,s1,(fun _ hh=>by cases hh),s2,Fr.of_heap (by simp) (fun b' hb' hc=> ?_) s3 rfl rfl rfl⟩
        refine hhold b' fun e=> ?_;subst e;rcases hc with hc |hc
        ·exact hnG hc
        ·exact hc ⟨id,i,h, .inl h3⟩
      |arrP z s=>exact D81 hsz hs hm (.ptr ad i h hle hvv) hr2 hv hp
      |_=>simp at hv
   |_=>simp at hv
end
end Go.Abs
end
section
namespace Go.Abs
section
variable {P:Program} {G:Nat→Prop} {w:World} {ob:Place} {m:Nat→Option A8}
structure Src (G:Nat→Prop) (w:World) (ob:Place) (esz:Nat) (t:Sq) (y:Value) (news:List Value):Prop where
 len:news.length=t.n*esz
 one: ∀u∈news,u.oneCell'=true
 glen: ∀k,k<t.n→(t.g k).length=esz
 rel: ∀(k j:Nat) (av:AV),k<t.n→(t.g k)[j]? =some av→av.pure=true∧ ∃u,news[k*esz+j]? =some u∧Rel G w ob av u
 val:(t.n=0∧y= .slice none 0 0)∨ ∃a c,y= .slice (some a) t.n c∧ ∀(j:Nat) (u:Value),news[j]? =some u→w.cell? (a.add j)=some u
theorem A8m {esz n b off c:Nat}{g:Nat→List AV}(hlen: ∀k,k<n→(g k).length=esz)
  (h: ∀(k j:Nat) (av:AV),k<n→(g k)[j]? =some av→av.pure=true∧ ∃u,w.cell? ⟨b,off+(k*esz+j),none⟩=some u∧Rel G w ob av u):
  ∃news,Src G w ob esz ⟨n,g⟩ (.slice (some ⟨b,off,none⟩) n c) news:=by
 have cell: ∀q,q<n*esz→ ∃u,w.cell? ⟨b,off+q,none⟩=some u∧u.oneCell'=true:=fun q hq=>by
  have hpos:0<esz:=by
   rcases Nat.eq_zero_or_pos esz with h |h
   ·rw[h]at hq;simp at hq
   ·exact h
  have hk:q / esz<n:=(Nat.div_lt_iff_lt_mul hpos).2 hq
  have hj:q%esz<(g (q / esz)).length:=by rw[hlen _ hk];exact Nat.mod_lt _ hpos
  obtain⟨h1,u,h2,h3⟩:=h (q / esz) (q%esz) _ hk (List.getElem?_eq_getElem hj);have e:q / esz*esz+q%esz=q:=by rw[Nat.mul_comm];exact Nat.div_add_mod q esz
  rw[e]at h2;exact⟨u,h2,h3.one_cell (A62 h1)⟩
 refine⟨(List.range (n*esz)).map fun q=>(w.cell? ⟨b,off+q,none⟩).getD undef,by simp,fun u hu=> ?_,hlen,fun k j av hk hj=> ?_, .inr ⟨_,c,rfl,fun j u hj=> ?_⟩⟩
 ·rw[List.mem_map]at hu;obtain⟨q,hq,rfl⟩:=hu;obtain⟨u,h1,h2⟩:=cell q (by simpa using hq);rw[h1];exact h2
 ·obtain⟨h1,u,h2,h3⟩:=h k j av hk hj;refine⟨h1,u,?_,h3⟩;have hjl:j<esz:=by
   rw[←hlen k hk];rcases Nat.lt_or_ge j (g k).length with h |h
   ·exact h
   ·rw[List.getElem?_eq_none h]at hj;cases hj
  have hq:k*esz+j<n*esz:=by have:(k+1)*esz≤n*esz:=Nat.mul_le_mul_right _ hk;rw[Nat.add_mul]at this;omega
  simp[hq,h2]
 ·rw[V9];have hq:j<n*esz:=by
   rcases Nat.lt_or_ge j (n*esz)with h |h
   ·exact h
   ·rw[List.getElem?_eq_none (by simpa using h)]at hj;cases hj
  obtain⟨u',h1,h2⟩:=cell j hq;simp[hq,h1]at hj;rw[h1,hj]
theorem A5c {esz:Nat}{b:AV}{p:Prop}{t:Sq}{y:Value}(hs:C8 G w ob m)(h:L0 m esz b=some (p,t))(hp:p)(hr:Rel G w ob b y): ∃news,Src G w ob esz t y news:=by
 have nilc: ∀g:Nat→List AV,∃news,Src G w ob esz ⟨0,g⟩ (.slice none 0 0) news:=fun g=>⟨[],by simp,fun u hu=>by simp at hu,fun k hk=>by simp at hk,fun k j av hk=>by simp at hk, .inl ⟨rfl,rfl⟩⟩
 have nile: ∀(g:Nat→List AV) (a:Addr) (cap:Nat),∃news,Src G w ob esz ⟨0,g⟩ (.slice (some a) 0 cap) news:=fun g a cap=>⟨[],by simp,fun u hu=>by simp at hu,fun k hk=>by simp at hk,fun k j av hk=>by simp at hk, .inr ⟨a,cap,rfl,fun j u hj=>by simp at hj⟩⟩
 cases b with
 |sc u=>
  rw[hr.sc_eq];simp only[L0]at h;split at h
  all_goals first
   |(rename_i heq;cases heq;done)
   |skip
  ·rename_i heq;simp only[AV.sc.injEq]at heq;subst heq;simp only[Option.some.injEq,Prod.mk.injEq]at h;obtain⟨_,rfl⟩:=h;exact nilc _
  ·rename_i heq;simp only[AV.sc.injEq]at heq;subst heq;simp only[Option.some.injEq,Prod.mk.injEq]at h;obtain⟨_,rfl⟩:=h;exact nile _ _ _
  ·cases h
 |dsl z n g=>
  simp only[L0]at h;split at h
  ·rename_i hz;simp only[Option.some.injEq,Prod.mk.injEq]at h;obtain⟨_,rfl⟩:=h;subst hz;cases hr with
   |dslNil=>exact nilc g
   |dslE a cap=>exact⟨[],by simp,fun u hu=>by simp at hu,fun k hk=>by simp at hk,fun k j av hk=>by simp at hk, .inr ⟨a,cap,rfl,fun j u hj=>by simp at hj⟩⟩
   |dsl b off cap c hG hcap hlen hpp hc hrr=>
    exact A8m hlen fun k j av hk hj=>⟨hpp k j av hk hj,c k j,hc k j hk (by
     rw[←hlen k hk];rcases Nat.lt_or_ge j (g k).length with h |h
     ·exact h
     ·rw[List.getElem?_eq_none h]at hj;cases hj),hrr k j av hk hj⟩
  ·cases h
 |dslx z n g=>
  simp only[L0]at h;split at h
  ·rename_i hz;simp only[Option.some.injEq,Prod.mk.injEq]at h;obtain⟨_,rfl⟩:=h;subst hz;cases hr with
   |dslxNil=>exact nilc g
   |dslxE a=>exact nile g a 0
   |dslx b off c hG hlen hpp hc hrr=>
    exact A8m hlen fun k j av hk hj=>⟨hpp k j av hk hj,c k j,hc k j hk (by
     rw[←hlen k hk];rcases Nat.lt_or_ge j (g k).length with h |h
     ·exact h
     ·rw[List.getElem?_eq_none h]at hj;cases hj),hrr k j av hk hj⟩
  ·cases h
 |sl id off len tot=>
  have main: ∀(i:H4) (z:Nat) (s:Sq),ob id=some i→z=esz→tot=s.n→i.esz=z→i.len=s.n→(i.blk=none→s.n=0)→
    (∀b,i.blk=some b→ ∃arr T fz,w.heap[b]? =some (.cells arr T fz)∧A5x G w ob arr i.esz s)→Rel G w ob (.sl id off len tot) y→ ∃news,Src G w ob esz ⟨len,fun i=>s.g (off+i)⟩ y news:=by
   intro i z s hi hz ht hiz hil hnb hrow hr;cases hr with
   |sl i' h' hle hs' hv=>
    rw[hi]at h';injection h' with h';subst h';obtain⟨h1,h2,h3⟩:=hv (by rw[hil,ht]);cases hb:i.blk with
    |none=>
     have:=hnb hb
     have hl0:len=0:=by omega
     subst hl0;rcases h2 hb with rfl |⟨a,rfl⟩
     ·exact nilc _
     ·exact nile _ a 0
    |some b=>
     obtain⟨o,c,rfl,hc,ho1,_⟩:=h3 b hb;obtain⟨arr,T,fz,hh,hin⟩:=hrow b hb;by_cases hl:len=0
     ·subst hl;exact⟨[],by simp,fun u hu=>by simp at hu,fun k hk=>by simp at hk,fun k j av hk=>by simp at hk, .inr ⟨_,c,rfl,fun j u hj=>by simp at hj⟩⟩
     ·have:=ho1 (by omega)
      subst this;refine A8m (fun k hk=>by rw[←hz,←hiz];exact hin.1 _ (by omega)) fun k j av hk hj=> ?_;obtain⟨h5,u,h6,h7⟩:=hin.2 (off+k) j av (by omega) hj;refine⟨h5,u,?_,h7⟩;have e:off*i.esz+(k*esz+j)=(off+k)*i.esz+j:=by rw[Nat.add_mul,hiz,hz,Nat.add_assoc]
      rw[e,cell_of_row w b _ arr T _ hh,h6]
  simp only[L0]at h;cases hm:m id with
  |none=>simp[hm]at h
  |some obj=>
   cases hi:ob id with
   |none=>rw[(hs.dom id).2 hi]at hm;cases hm
   |some i=>
    have ho:=hs.own id obj i hm hi;rw[hm]at h;cases obj with
    |arr z s=>
     simp only at h;split at h
     ·rename_i hz;simp only[Option.some.injEq,Prod.mk.injEq]at h;obtain⟨rfl,rfl⟩:=h;refine main i z s hi hz hp ho.2.1 ho.2.2.1 ho.arr_none (fun b hb=> ?_) hr;rcases ho.2.2.2.2 with⟨h5,_⟩ |⟨b',arr,T,h5,h6,_,h7⟩
      ·rw[h5]at hb;cases hb
      ·rw[h5]at hb;injection hb with hb;subst hb;exact⟨arr,T,_,h6,h7⟩
     ·cases h
    |frz z s=>
     simp only at h;split at h
     ·rename_i hz;simp only[Option.some.injEq,Prod.mk.injEq]at h;obtain⟨rfl,rfl⟩:=h;refine main i z s hi hz hp ho.2.1 ho.2.2.1 ho.frz_none (fun b hb=> ?_) hr;rcases ho.2.2.2.2 with⟨h5,_⟩ |⟨b',arr,T,fz,h5,_,h6,h7⟩
      ·rw[h5]at hb;cases hb
      ·rw[h5]at hb;injection hb with hb;subst hb;exact⟨arr,T,fz,h6,h7⟩
     ·cases h
    |_=>simp at h
 |_=>simp[L0]at h
theorem B24 {t ty el:TypeId}{z:Value}{i:TypeInfo}(ht:P.underlying t=some (.slice el))(hi:P.info? el=some i)(hz:i.zero=some z)
  {esz:Nat}(hsize:i.size=esz)(hzs:z.cells.size=esz){y:Value}{a:Addr}{n:Nat}{q:Sq}{news old:List Value}(hsrc:Src G w ob esz q y news)
  (h63:n+q.n≤maxLen)(hbytes:(n+q.n)*i.bytes≤140737488355328)
  (hlo:old.length=n*esz)(holds: ∀(j:Nat) (u:Value),old[j]? =some u→w.cell? (a.add j)=some u):
  (q.n=0∧(Builtin.append_ #[t,t] ty #[.slice (some a) n n,y]).run P w= .ok (.slice (some a) n n) w)∨
  (∃newCap row,q.n≠0∧n+q.n≤newCap∧row.size=newCap*esz∧(Builtin.append_ #[t,t] ty #[.slice (some a) n n,y]).run P w= .ok (.slice (some ⟨w.heap.size,0,none⟩) (n+q.n) newCap) (w.drew.alloc (.cells row el))∧
    (∀j,j<n*esz→row[j]? =old[j]?)∧ ∀j,j<q.n*esz→row[n*esz+j]? =news[j]?):=by
 subst hsize;have hlen:=hsrc.len
 have hb:=hbytes
 have h63':n+q.n≤9223372036854775807:=by simp only[maxLen]at h63;omega
 rcases hsrc.val with⟨hq0,rfl⟩ |⟨a2,c,rfl,hcells⟩
 ·refine .inl ⟨hq0,?_⟩;simp[Builtin.append_,run_underlying ht,sizeOf,typeInfo,hi,Builtin.lenOf,Builtin.firstCells,storeCells]
 ·by_cases hq0:q.n=0
  ·refine .inl ⟨hq0,?_⟩;rw[hq0];simp[Builtin.append_,run_underlying ht,sizeOf,typeInfo,hi,Builtin.lenOf,Builtin.firstCells,loadCells,loadCellsFrom,storeCells]
  ·have hr:=run_append_grow (P:=P) w t ty el i z ht hi hz a n n old hlo holds a2 q.n c news hlen hcells (by omega) (by omega) (growslice_fits (by omega) hbytes)
   refine .inr ⟨grownCap w (n+q.n) n el,_,hq0,grownCap_ge w (n+q.n) n el,?_,hr,fun j hj=> ?_,fun j hj=> ?_⟩
   ·have:=grownCap_ge w (n+q.n) n el
    simp only[Array.size_append,List.size_toArray,hlo,hlen,size_zeroCells,hzs,←Nat.add_mul];congr 1;omega
   ·rw[Array.append_assoc,Array.getElem?_append_left (by rw[List.size_toArray,hlo];exact hj)];simp
   ·rw[Array.append_assoc,Array.getElem?_append_right (by rw[List.size_toArray,hlo];omega),List.size_toArray,hlo,Nat.add_sub_cancel_left,
     Array.getElem?_append_left (by rw[List.size_toArray,hlen];exact hj)]
    simp
theorem A3s {t ty el:TypeId}{z:Value}{i:TypeInfo}(ht:P.underlying t=some (.slice el))(hi:P.info? el=some i)(hz:i.zero=some z)
  {esz:Nat}(hsize:i.size=esz)(hzs:z.cells.size=esz){x y:Value}{n:Nat}{q:Sq}{news:List Value}(hsrc:Src G w ob esz q y news)
  (h63:n+q.n≤maxLen)(hbytes:(n+q.n)*i.bytes≤140737488355328)
  (hx:((x= .slice none 0 0∨ ∃a,x= .slice (some a) 0 0)∧n=0)∨ ∃b cap arr T,x= .slice (some ⟨b,0,none⟩) n cap∧w.heap[b]? =some (.cells arr T (0,0))∧n≤cap∧arr.size=cap*esz):
  (q.n=0∧(Builtin.append_ #[t,t] ty #[x,y]).run P w= .ok x w)∨
  (∃b cap arr T,q.n≠0∧x= .slice (some ⟨b,0,none⟩) n cap∧w.heap[b]? =some (.cells arr T (0,0))∧n+q.n≤cap∧
    (Builtin.append_ #[t,t] ty #[x,y]).run P w= .ok (.slice (some ⟨b,0,none⟩) (n+q.n) cap) (w.setRow b (stored arr (n*esz) news)))∨
  (∃newCap row,q.n≠0∧n+q.n≤newCap∧row.size=newCap*esz∧(Builtin.append_ #[t,t] ty #[x,y]).run P w= .ok (.slice (some ⟨w.heap.size,0,none⟩) (n+q.n) newCap) (w.drew.alloc (.cells row el))∧
    (∀j,j<n*esz→ ∀b cap arr T,x= .slice (some ⟨b,0,none⟩) n cap→w.heap[b]? =some (.cells arr T (0,0))→row[j]? =arr[j]?)∧ ∀j,j<q.n*esz→row[n*esz+j]? =news[j]?):=by
 by_cases hxe: ∃a,x= .slice (some a) 0 0∧n=0
 ·obtain⟨a,rfl,rfl⟩:=hxe;rcases B24 (ty:=ty) ht hi hz hsize hzs (a:=a) (n:=0) (old:= []) hsrc h63 hbytes (by simp) (fun j u hj=>by simp at hj)with h |⟨nc,row,h1,h2,h3,h4,h5,h6⟩
  ·exact .inl h
  ·exact .inr (.inr ⟨nc,row,h1,h2,h3,h4,fun j hj=>by simp at hj,h6⟩)
 replace hx:(x= .slice none 0 0∧n=0)∨ ∃b cap arr T,x= .slice (some ⟨b,0,none⟩) n cap∧w.heap[b]? =some (.cells arr T (0,0))∧n≤cap∧arr.size=cap*esz:=by
  rcases hx with⟨h |⟨a,h⟩,hn⟩ |h
  ·exact .inl ⟨h,hn⟩
  ·exact absurd ⟨a,h,hn⟩ hxe
  ·exact .inr h
 subst hsize;have hlen:=hsrc.len
 have hb:=hbytes
 have h63':n+q.n≤9223372036854775807:=by simp only[maxLen]at h63;omega
 rcases hsrc.val with⟨hq0,rfl⟩ |⟨a,c,rfl,hcells⟩
 · -- nothing is appended:nil
   refine .inl ⟨hq0,?_⟩;rcases hx with⟨rfl,rfl⟩ |⟨b,cap,arr,T,rfl,hg,hnc,_⟩
   ·simp[Builtin.append_,run_underlying ht,sizeOf,typeInfo,hi,Builtin.lenOf,Builtin.firstCells]
   ·simp[Builtin.append_,run_underlying ht,sizeOf,typeInfo,hi,Builtin.lenOf,Builtin.firstCells,hnc,storeCells]
 ·by_cases hq0:q.n=0
  ·refine .inl ⟨hq0,?_⟩;rw[hq0];rcases hx with⟨rfl,rfl⟩ |⟨b,cap,arr,T,rfl,hg,hnc,_⟩
   ·simp[Builtin.append_,run_underlying ht,sizeOf,typeInfo,hi,Builtin.lenOf,Builtin.firstCells,loadCells,loadCellsFrom]
   ·simp[Builtin.append_,run_underlying ht,sizeOf,typeInfo,hi,Builtin.lenOf,Builtin.firstCells,loadCells,loadCellsFrom,hnc,storeCells]
  ·rcases hx with⟨rfl,rfl⟩ |⟨b,cap,arr,T,rfl,hg,hnc,hsz⟩
   ·refine .inr (.inr ⟨grownCap w q.n 0 el,news.toArray++Builtin.zeroCells z.cells (grownCap w q.n 0 el-q.n),hq0,?_,?_,?_,(fun j hj=>by simp at hj),fun j hj=> ?_⟩)
    ·have:=grownCap_ge w q.n 0 el;omega
    ·have:=grownCap_ge w q.n 0 el
     simp only[Array.size_append,List.size_toArray,hlen,size_zeroCells,hzs,←Nat.add_mul];congr 1;omega
    ·have hr:=run_append_nil (P:=P) w t ty el i z ht hi hz a q.n c news hlen hcells (by omega) (by omega) (by simp only[Nat.zero_add]at hb;omega)
     simpa using hr
    ·simp only[Nat.zero_mul,Nat.zero_add];rw[Array.getElem?_append_left (by simp[hlen];exact hj)];simp
   ·by_cases hroom:n+q.n≤cap
    ·refine .inr (.inl ⟨b,cap,arr,T,hq0,rfl,hg,hroom,?_⟩);have hfit:n*i.size+news.length≤arr.size:=by rw[hlen,hsz,←Nat.add_mul];exact Nat.mul_le_mul_right _ hroom
     have hf:=run_firstCells_some (P:=P) w i.size q.n a q.n c news hlen hcells
     have hst:=run_storeCells_at P b (n*i.size) T news 0 arr w hg (by simpa using hfit) hsrc.one;simp only[Nat.add_zero]at hst;simp[Builtin.append_,run_underlying ht,sizeOf,typeInfo,hi,Builtin.lenOf,hroom,hf,Addr.add_lit,hst,stored]
    ·have holds: ∀(j:Nat) (u:Value),(arr.toList.take (n*i.size))[j]? =some u→w.cell? ((⟨b,0,none⟩:Addr).add j)=some u:=fun j u hj=>by
      rw[V9,Nat.zero_add,cell_of_row w b j arr T _ hg];rw[List.getElem?_take]at hj;split at hj
      ·simpa using hj
      ·cases hj
     have hlo:(arr.toList.take (n*i.size)).length=n*i.size:=by simp only[List.length_take,Array.length_toList,hsz];have:=Nat.mul_le_mul_right i.size hnc;omega
     have hr:=run_append_grow (P:=P) w t ty el i z ht hi hz ⟨b,0,none⟩ n cap (arr.toList.take (n*i.size)) hlo holds a q.n c news hlen hcells (by omega) (by omega) (growslice_fits (by omega) hbytes);refine .inr (.inr ⟨grownCap w (n+q.n) cap el,_,hq0,grownCap_ge w (n+q.n) cap el,?_,hr,fun j hj b' cap' arr' T' hxe hg'=> ?_,fun j hj=> ?_⟩)
     ·have:=grownCap_ge w (n+q.n) cap el
      simp only[Array.size_append,List.size_toArray,hlo,hlen,size_zeroCells,hzs,←Nat.add_mul];congr 1;omega
     ·simp only[Value.slice.injEq,Option.some.injEq,Addr.mk.injEq]at hxe;obtain⟨⟨rfl,_⟩,_⟩:=hxe;rw[hg]at hg';simp only[Option.some.injEq,Obj.cells.injEq]at hg';obtain⟨rfl,_⟩:=hg';rw[Array.append_assoc,Array.getElem?_append_left (by rw[List.size_toArray,hlo];exact hj)];simp[hj]
     ·rw[Array.append_assoc,Array.getElem?_append_right (by rw[List.size_toArray,hlo];omega),List.size_toArray,hlo,Nat.add_sub_cancel_left,
       Array.getElem?_append_left (by rw[List.size_toArray,hlen];exact hj)]
      simp
end
end Go.Abs
end
section
namespace Go.Abs
section
variable {P:Program} {G:Nat→Prop} {w:World} {ob:Place} {m:Nat→Option A8}
theorem Src.relD {esz:Nat}{t:Sq}{y:Value}{news:List Value}(h:Src G w ob esz t y news){k j:Nat}{av:AV}(hk:k<t.n)(hj:(t.g k)[j]? =some av):
  j<esz∧av.pure=true∧ ∃u,news[k*esz+j]? =some u∧Rel G w ob av u:=by
 refine⟨?_,h.rel k j av hk hj⟩;rw[←h.glen k hk];rcases Nat.lt_or_ge j (t.g k).length with h |h
 ·exact h
 ·rw[List.getElem?_eq_none h]at hj;cases hj
theorem X1 {k n esz j:Nat}(hk:k<n)(hj:j<esz):k*esz+j<n*esz:=by have:(k+1)*esz≤n*esz:=Nat.mul_le_mul_right _ hk;rw[Nat.add_mul]at this;omega
theorem C90 {t el ty:TypeId}{i:TypeInfo}{z:Value}{esz bytes:Nat}{cs:Array Bool}{xv yv:Value}{n:Nat}{g:Nat→List AV}{tq:Sq}{news:List Value}
  (ht:P.underlying t=some (.slice el))(hi:P.info? el=some i)(hz:i.zero=some z)(hsize:i.size=esz)(hby:i.bytes=bytes)(hzs:z.cells.size=esz)
  (hs:C8 G w ob m)(hbi:(builtin .append #[t,t] ty cs #[xv,yv]).run P w=((Builtin.append_ #[t,t] ty #[xv,yv]).run P w).andThen fun v w'=> .ok (.value v) w')
  (hr:Rel G w ob (.dslx esz n g) xv)(hS:Src G w ob esz tq yv news)(hb1:(n+tq.n)*bytes≤140737488355328)(hb2:n+tq.n≤maxLen):
  C2 P G w ob m (builtin .append #[t,t] ty cs #[xv,yv]) ⟨some (.dsl esz (n+tq.n) (Sq.app ⟨n,g⟩ tq).g),[]⟩:=by
 have hx: ∃(old:List Value),((xv= .slice none 0 0∧n=0)∨ ∃a,xv= .slice (some a) n n∧ ∀(j:Nat) (u:Value),old[j]? =some u→w.cell? (a.add j)=some u)∧old.length=n*esz∧
   (∀k,k<n→(g k).length=esz)∧ ∀(k j:Nat) (av:AV),k<n→(g k)[j]? =some av→av.pure=true∧ ∃u,old[k*esz+j]? =some u∧Rel G w ob av u:=by
  cases hr with
  |dslxNil=>exact⟨[], .inl ⟨rfl,rfl⟩,by simp,fun k hk=>by omega,fun k j av hk=>by omega⟩
  |dslxE a=>exact⟨[], .inr ⟨a,rfl,fun j u hj=>by simp at hj⟩,by simp,fun k hk=>by omega,fun k j av hk=>by omega⟩
  |dslx b off c hG hlen hpp hc hrr=>
   obtain⟨old,hO⟩:=A8m (G:=G) (w:=w) (ob:=ob) (b:=b) (off:=off) (c:=n) hlen fun k j av hk hj=>⟨hpp k j av hk hj,c k j,hc k j hk (by
     rw[←hlen k hk];rcases Nat.lt_or_ge j (g k).length with h |h
     ·exact h
     ·rw[List.getElem?_eq_none h]at hj;cases hj),hrr k j av hk hj⟩
   refine⟨old, .inr ⟨_,rfl,?_⟩,hO.len,hO.glen,hO.rel⟩;rcases hO.val with⟨_,h⟩ |⟨a,c',h,h'⟩
   ·cases h
   ·simp only[Value.slice.injEq,Option.some.injEq]at h;obtain⟨rfl,_⟩:=h;exact h'
 obtain⟨old,hxv,hol,hgl,hrel⟩:=hx;have fresh: ∀nc (row:Array Value),n+tq.n≤nc→(∀j,j<n*esz→row[j]? =old[j]?)→(∀j,j<tq.n*esz→row[n*esz+j]? =news[j]?)→
   (Builtin.append_ #[t,t] ty #[xv,yv]).run P w= .ok (.slice (some ⟨w.heap.size,0,none⟩) (n+tq.n) nc) (w.drew.alloc (.cells row el))→
   C2 P G w ob m (builtin .append #[t,t] ty cs #[xv,yv]) ⟨some (.dsl esz (n+tq.n) (Sq.app ⟨n,g⟩ tq).g),[]⟩:=by
  intro nc row hnc hold hnew hrun;rw[hrun]at hbi;have hhold: ∀b,b<w.heap.size→(w.drew.alloc (.cells row el)).heap[b]? =w.heap[b]? :=fun b hb=>heap_alloc_old w.drew _ _ hb
  have hGw: ∀b,G b→(w.drew.alloc (.cells row el)).heap[b]? =w.heap[b]? :=fun b hG=>hhold b (hs.lt b hG);refine⟨fun b=>G b∨b=w.heap.size,w.drew.alloc (.cells row el),ob, .slice (some ⟨w.heap.size,0,none⟩) (n+tq.n) nc, .inl hbi,⟨hs.dom,hs.inj,?_,?_,?_⟩,fun av hav=> ?_,C3.refl ob,⟨by simp,fun b hb _=>hhold b hb,fun b hb=> .inl hb,fun b hb=> .inl hb,?_,rfl,rfl,rfl,by first |exact Nat.le_refl _ |exact Nat.le_succ _⟩⟩
  ·rintro b (hb |rfl)
   ·have:=hs.lt b hb;simp;omega
   ·simp
  ·intro id o inf hm' hi';have ho:=hs.own id o inf hm' hi';exact ho.ext (fun b hb=> .inl hb) hGw (C3.refl ob) fun b hb=>hhold b (ho.has_lt hb)
  ·intro id o inf b hm' hown hi' hb hG;rcases hG with hG |rfl
   ·exact hs.sep id o inf b hm' hown hi' hb hG
   ·have:=(hs.own id o inf hm' hi').has_lt hb;omega
  ·injection hav with hav;subst hav;have lk: ∀k,k<n+tq.n→((Sq.app ⟨n,g⟩ tq).g k).length=esz:=fun k hk=>by
    simp only[Sq.app];split
    ·exact hgl k ‹_›
    ·exact hS.glen _ (by omega)
   have cellR: ∀k j av,k<n+tq.n→((Sq.app ⟨n,g⟩ tq).g k)[j]? =some av→av.pure=true∧ ∃u,row[k*esz+j]? =some u∧Rel G w ob av u:=by
    intro k j av hk hj;have hjl:j<esz:=by
     rw[←lk k hk];rcases Nat.lt_or_ge j ((Sq.app ⟨n,g⟩ tq).g k).length with h |h
     ·exact h
     ·rw[List.getElem?_eq_none h]at hj;cases hj
    simp only[Sq.app]at hj;split at hj
    ·rename_i hk1;obtain⟨c1,u,c2,c3⟩:=hrel k j av hk1 hj;exact⟨c1,u,by rw[hold _ (X1 hk1 hjl)];exact c2,c3⟩
    ·rename_i hk1;obtain⟨c0,c1,u,c2,c3⟩:=hS.relD (k:=k-n) (by omega) hj;have hlt:=X1 (n:=tq.n) (k:=k-n) (by omega) c0;refine⟨c1,u,?_,c3⟩;have hge:n*esz≤k*esz:=Nat.mul_le_mul_right _ (by omega)
     have hsub:(k-n)*esz=k*esz-n*esz:=Nat.sub_mul _ _ _
     have e1:k*esz+j=n*esz+((k-n)*esz+j):=by omega
     rw[e1,hnew _ hlt];exact c2
   refine .dsl w.heap.size 0 nc (fun k j=>(row[k*esz+j]?).getD undef) (.inr rfl) hnc lk (fun k j av hk hj=>(cellR k j av hk hj).1) (fun k j hk hj=> ?_) (fun k j av hk hj=> ?_)
   ·obtain⟨_,u,hu,_⟩:=cellR k j _ hk (List.getElem?_eq_getElem (by rw[lk k hk];exact hj));have hnc':(w.drew.alloc (.cells row el)).heap[w.heap.size]? =some (.cells row el (0,0)):=heap_alloc_new w.drew _;rw[Nat.zero_add,cell_of_row _ w.heap.size _ row el _ hnc',hu];rfl
   ·obtain⟨_,u,hu,hre⟩:=cellR k j av hk hj;rw[hu];exact hre.ext (fun b hb=> .inl hb) hGw (C3.refl ob)
  ·rintro b (hb |rfl)
   ·exact .inl hb
   ·exact .inr (.inl (Nat.le_refl _))
 rcases hxv with⟨rfl,rfl⟩ |⟨a,rfl,holds⟩
 ·rcases A3s (ty:=ty) ht hi hz hsize hzs hS (x:= .slice none 0 0) (n:=0) hb2 (by rw[hby];exact hb1) (.inl ⟨.inl rfl,rfl⟩)with⟨h0,hrun⟩ |⟨b,cap,arr,T,_,hxe,_⟩ |⟨nc,row,_,hnc,hrow,hrun,_,hnew⟩
  ·rw[hrun]at hbi;refine C2.quiet hs (v:= .slice none 0 0) hbi ?_;rw[h0];exact .dslNil
  ·cases hxe
  ·exact fresh nc row hnc (fun j hj=>by simp at hj) hnew hrun
 ·rcases B24 (ty:=ty) ht hi hz hsize hzs hS hb2 (by rw[hby];exact hb1) hol holds with⟨h0,hrun⟩ |⟨nc,row,_,hnc,hrow,hrun,hold,hnew⟩
  ·rw[hrun]at hbi;refine C2.quiet hs (v:= .slice (some a) n n) hbi ?_;rw[h0,Nat.add_zero];cases hr with
   |dslxE a=>exact .dslE a _
   |dslx b off c hG hlen hpp hc hrr=>
    refine .dsl b off n c hG (Nat.le_refl n) (fun k hk=> ?_) (fun k j av hk hj=> ?_) hc (fun k j av hk hj=> ?_)
    all_goals(try simp only[Sq.app]at hj);(try simp only[Sq.app])
    ·rw[if_pos hk];exact hlen k hk
    ·rw[if_pos hk]at hj;exact hpp k j av hk hj
    ·rw[if_pos hk]at hj;exact hrr k j av hk hj
  ·exact fresh nc row hnc hold hnew hrun
theorem D3q {t el ty:TypeId}{i:TypeInfo}{z:Value}{zz bytes id tot:Nat}{cs:Array Bool}{xv yv:Value}{s tq:Sq}{news:List Value}
  (ht:P.underlying t=some (.slice el))(hi:P.info? el=some i)(hz:i.zero=some z)(hsize:i.size=zz)(hby:i.bytes=bytes)(hzs:z.cells.size=zz)
  (hs:C8 G w ob m)(hm:m id=some (.arrP zz s))(hbi:(builtin .append #[t,t] ty cs #[xv,yv]).run P w=((Builtin.append_ #[t,t] ty #[xv,yv]).run P w).andThen fun v w'=> .ok (.value v) w')
  (hr:Rel G w ob (.sl id 0 s.n tot) xv)(hS:Src G w ob zz tq yv news)(htot:tot=s.n)(hb1:(s.n+tq.n)*bytes≤140737488355328)(hb2:s.n+tq.n≤maxLen):
  C2 P G w ob m (builtin .append #[t,t] ty cs #[xv,yv]) ⟨some (.sl id 0 (s.n+tq.n) (s.n+tq.n)),[(id, .arrP zz (s.app tq))]⟩:=by
 cases hr with
 |sl inf hi' hle hss hvv=>
  obtain⟨hz1,hl1,hc1,pp,hkind,hrow⟩:=hs.own id _ inf hm hi';obtain⟨_,hvn,hvs⟩:=hvv (by rw[hl1,htot]);have hp': ∀x,inf.has x↔inf.blk=some x∨pp x:=fun x=>H4.has_priv hkind x
  have hxcase:((xv= .slice none 0 0∨ ∃a,xv= .slice (some a) 0 0)∧s.n=0∧inf.blk=none∧inf.cap=0∧ ∀x,¬pp x)∨ ∃b arr T β,inf.blk=some b∧xv= .slice (some ⟨b,0,none⟩) s.n inf.cap∧w.heap[b]? =some (.cells arr T (0,0))∧arr.size=inf.cap*zz∧A3u G w ob arr zz s β∧B5j b s.n zz pp β:=by
   rcases hrow with⟨h1,h2,h3,h4⟩ |⟨b,arr,T,β,h1,h2,h3,h4,h5⟩
   ·exact .inl ⟨hvn h1,h2,h1,h3,h4⟩
   ·obtain⟨o,c,rfl,_,_,h6⟩:=hvs b h1;obtain⟨rfl,rfl⟩:=h6 rfl;exact .inr ⟨b,arr,T,β,h1,rfl,h2,by rw[h3,hz1],hz1▸h4,h5⟩
  have hA:=A3s (ty:=ty) ht hi hz hsize hzs hS (x:=xv) (n:=s.n) hb2 (by rw[hby];exact hb1) (by
   rcases hxcase with⟨h1,h2,_⟩ |⟨b,arr,T,β,h2,h3,h4,h5,_⟩
   ·exact .inl ⟨h1,h2⟩
   ·exact .inr ⟨b,inf.cap,arr,T,h3,h4,hc1,h5⟩)
  have hgapp: ∀k,k<s.n+tq.n→((s.app tq).g k).length=zz:=fun k hk=>by
   simp only[Sq.app];split
   ·rename_i hk1;rcases hxcase with⟨_,h2,_⟩ |⟨b,arr,T,β,_,_,_,_,h6,_⟩
    ·omega
    ·exact h6.1 k hk1
   ·exact hS.glen _ (by omega)
  -- the row behind the append
  have mk: ∀(w':World) (ob':Place) (b:Nat) (row:Array Value) (β:Nat→Nat→Option Nat),C3 ob ob'→(∀q,G q→w'.heap[q]? =w.heap[q]?)→(∀q,pp q→w'.heap[q]? =w.heap[q]?)→
    ((∀x,¬pp x)∧s.n=0∨ ∃arr b0,A3u G w ob arr zz s β∧B5j b0 s.n zz pp β∧ ∀k j,k<s.n→j<zz→row[k*zz+j]? =arr[k*zz+j]?)→ ¬pp b→
    (∀j,j<tq.n*zz→row[s.n*zz+j]? =news[j]?)→
    ∃β',A3u G w' ob' row zz (s.app tq) β'∧B5j b (s.n+tq.n) zz pp β':=by
   intro w' ob' b row β hob hGw hpw hold hnb hnew;refine⟨fun k j=>if k<s.n then β k j else none,⟨hgapp,fun k j av hk hj=> ?_⟩,?_⟩
   ·simp only[Sq.app]at hk hj;split at hj
    ·rename_i hk1;rcases hold with⟨_,h0⟩ |⟨arr,b0,h5,h6,h7⟩
     ·omega
     ·obtain⟨v,hv,hcl⟩:=h5.2 k j av hk1 hj;have hjl:j<zz:=by
       rw[←h5.1 k hk1];rcases Nat.lt_or_ge j (s.g k).length with h |h
       ·exact h
       ·rw[List.getElem?_eq_none h]at hj;cases hj
      refine⟨v,by rw[h7 k j hk1 hjl];exact hv,?_⟩;show A51 G w' ob' (if k<s.n then β k j else none) av v;rw[if_pos hk1];exact hcl.ext (fun _ h=>h) hGw hob fun x hx=>hpw x (h6.sub k j x hk1 hjl hx)
    ·rename_i hk1;obtain⟨c0,c1,u,c2,c3⟩:=hS.relD (k:=k-s.n) (by omega) hj;have hlt:=X1 (n:=tq.n) (k:=k-s.n) (by omega) c0
     have hge:s.n*zz≤k*zz:=Nat.mul_le_mul_right _ (by omega)
     have hsub:(k-s.n)*zz=k*zz-s.n*zz:=Nat.sub_mul _ _ _
     have e1:k*zz+j=s.n*zz+((k-s.n)*zz+j):=by omega
     refine⟨u,by rw[e1,hnew _ hlt];exact c2,?_⟩;show A51 G w' ob' (if k<s.n then β k j else none) av u;rw[if_neg hk1];have hrel:=c3.ext (G':=G) (w':=w') (fun _ h=>h) hGw hob;cases av with
     |own=>simp[AV.pure]at c1
     |hole=>simp[AV.pure]at c1
     |_=>exact⟨c1,rfl,hrel⟩
   ·refine⟨fun k j x hk hj hx=> ?_,fun x hx=> ?_,fun k j k' j' x hk hj hk' hj' hx hx'=> ?_,hnb⟩
    ·split at hx
     ·rename_i hk1;rcases hold with⟨_,h0⟩ |⟨arr,b0,h5,h6,h7⟩
      ·omega
      ·exact h6.sub k j x hk1 hj hx
     ·cases hx
    ·rcases hold with⟨h0,_⟩ |⟨arr,b0,h5,h6,h7⟩
     ·exact absurd hx (h0 x)
     ·obtain⟨k,j,hk,hj,hx2⟩:=h6.all x hx;exact⟨k,j,by omega,hj,by rw[if_pos hk];exact hx2⟩
    ·split at hx
     ·split at hx'
      ·rcases hold with⟨_,h0⟩ |⟨arr,b0,h5,h6,h7⟩
       ·omega
       ·exact h6.inj k j k' j' x (by assumption) hj (by assumption) hj' hx hx'
      ·cases hx'
     ·cases hx
  rcases hA with⟨h0,hrun⟩ |⟨b,cap,arr,T,hqne,hxe,hg,hcap,hrun⟩ |⟨nc,row,hq0,hnc,hrow',hrun,hold,hnew⟩
  · -- nothing is appended
    rw[hrun]at hbi;have hup:upd ob id (some inf)=ob:=A0u hi'
    have hsq: ∀k,k<s.n→(s.app tq).g k=s.g k:=fun k hk=>by simp[Sq.app,hk]
    obtain⟨s1,s2,s3⟩:=hs.updateP (w':=w) id (.arrP zz (s.app tq)) inf (Nat.le_refl _) (fun _ _ _=>rfl) (fun j hj=>by rw[hi']at hj;injection hj with hj;exact .inl hj)
     (fun b hb=> .inl ⟨inf,hi',hb⟩) (fun _ _ _ _ _=>rfl) (by
       rw[hup];refine⟨hz1,by simp[Sq.app,h0,hl1],by simp[Sq.app,h0,hc1],pp,hkind,?_⟩;rcases hrow with⟨h1,h2,h3,h4⟩ |⟨b,arr,T,β,h1,h2,h3,h4,h5⟩
       ·exact .inl ⟨h1,by simp[Sq.app,h0,h2],h3,h4⟩
       ·refine .inr ⟨b,arr,T,β,h1,h2,h3,⟨fun k hk=> ?_,fun k j av hk hj=> ?_⟩,by simpa[Sq.app,h0]using h5⟩
        ·simp only[Sq.app,h0,Nat.add_zero]at hk⊢;rw[if_pos hk];exact h4.1 k hk
        ·simp only[Sq.app,h0,Nat.add_zero]at hk hj;rw[if_pos hk]at hj;exact h4.2 k j av hk hj)
     (fun _ b hb=>hs.sep id _ inf b hm rfl hi' hb)
    refine⟨G,w,_,xv, .inl hbi,s1,(fun av hav=> ?_),s2,Fr.of_heap (Nat.le_refl _) (fun _ _ _=>rfl) s3 rfl rfl rfl⟩;injection hav with hav;subst hav;rw[hup,h0,Nat.add_zero];exact .sl inf hi' (by omega) hss (fun _=>⟨by omega,hvn,hvs⟩)
  · -- there is room
    rcases hxcase with⟨hn0',hn0,hb0,hc0,_⟩ |⟨b',arr',T',β,h1,h2,h3,h4,h5,h6⟩
    ·rcases hn0' with h1 |⟨a,h1⟩
     ·rw[h1]at hxe;cases hxe
     ·rw[h1]at hxe;simp only[Value.slice.injEq]at hxe;omega
    rw[h2]at hxe;simp only[Value.slice.injEq,Option.some.injEq,Addr.mk.injEq,and_true,true_and]at hxe;obtain⟨rfl,rfl⟩:=hxe;rw[h3]at hg;simp only[Option.some.injEq,Obj.cells.injEq,and_true]at hg;obtain⟨rfl,rfl⟩:=hg;rw[hrun]at hbi;have hfit:s.n*zz+news.length≤arr'.size:=by rw[hS.len,h4,←Nat.add_mul];exact Nat.mul_le_mul_right _ hcap
    have hnG: ¬G b':=hs.sep id _ inf b' hm rfl hi' (.inl h1)
    have hhold: ∀q,q≠b'→(w.setRow b' (stored arr' (s.n*zz) news)).heap[q]? =w.heap[q]? :=fun q hk=>setRow_other w b' q _ hk
    have hGw: ∀q,G q→(w.setRow b' (stored arr' (s.n*zz) news)).heap[q]? =w.heap[q]? :=fun q hG=>hhold q (fun e=>hnG (e▸hG))
    have hi2:(⟨some b',zz,s.n+tq.n,inf.cap, .priv pp⟩:H4)=inf∨(∃p q,inf.kind= .priv p∧(⟨some b',zz,s.n+tq.n,inf.cap, .priv pp⟩:H4)= {inf with kind:=q})∨(inf.len<(⟨some b',zz,s.n+tq.n,inf.cap, .priv pp⟩:H4).len∧inf.kind≠ .map):=by
     by_cases hq:tq.n=0
     ·left;obtain⟨ib,ie,il,ic,im⟩:=inf;simp only at hz1 hl1 hkind h1;simp[hq,h1,hz1,hl1,hkind]
     ·exact .inr (.inr ⟨by simp only;omega,by rw[hkind];simp⟩)
    have hob:C3 ob (upd ob id (some ⟨some b',zz,s.n+tq.n,inf.cap, .priv pp⟩)):=fun q j hj=>by
     by_cases hq:q=id
     ·subst hq;rw[hi']at hj;injection hj with hj;subst hj;exact⟨_,by simp,hi2⟩
     ·exact⟨j,by rw[E8 hq];exact hj, .inl rfl⟩
    obtain⟨β',hβ1,hβ2⟩:=mk (w.setRow b' (stored arr' (s.n*zz) news)) _ b' (stored arr' (s.n*zz) news) β hob hGw (fun q hq=>hhold q fun e=>h6.ne (e▸hq)) (.inr ⟨arr',b',h5,h6,fun k j hk hj=>by
      rw[A12 _ _ _ hfit];have:=X1 hk hj;rw[if_neg (by omega)]⟩) h6.ne (fun j hj=>by
      rw[A12 _ _ _ hfit,hS.len,if_pos ⟨by omega,by omega⟩];congr 1;omega)
    obtain⟨s1,s2,s3⟩:=hs.updateP (w':=w.setRow b' (stored arr' (s.n*zz) news)) id (.arrP zz (s.app tq)) ⟨some b',zz,s.n+tq.n,inf.cap, .priv pp⟩ (by simp)
     (fun q _ hne=>hhold q (fun e=>hne inf hi' (.inl (by rw[h1,e])))) (fun j hj=>by rw[hi']at hj;injection hj with hj;exact hj▸hi2)
     (fun q hq=> .inl ⟨inf,hi',by
       rcases hq with hq |hq
       ·exact .inl (by rw[h1];exact hq)
       ·exact(hp' q).2 (.inr hq)⟩) (fun j hj q hq hG=>hGw q hG)
     ⟨rfl,rfl,hcap,pp,rfl, .inr ⟨b',_,T',β',rfl,S0 h3,by rw[A02 _ _ _ hfit,h4],hβ1,hβ2⟩⟩
     (fun _ q hq=>by
       rcases hq with hq |hq
       ·simp only[Option.some.injEq]at hq;exact hq▸hnG
       ·exact hs.sep id _ inf q hm rfl hi' ((hp' q).2 (.inr hq)))
    refine⟨G,w.setRow b' (stored arr' (s.n*zz) news),_, .slice (some ⟨b',0,none⟩) (s.n+tq.n) inf.cap, .inl hbi,s1,(fun av hav=> ?_),s2,Fr.of_heap (by simp) (fun q hq hc=> ?_) s3 rfl rfl rfl⟩
    ·injection hav with hav;subst hav;refine .sl ⟨some b',zz,s.n+tq.n,inf.cap, .priv pp⟩ (by simp) (Nat.le_refl _) ⟨_,_,rfl⟩ fun _=>⟨by simp,fun h=>by simp at h,fun q hq=> ?_⟩;simp only[Option.some.injEq]at hq;subst hq;exact⟨0,_,rfl,hcap,fun _=>by simp,fun _=>⟨rfl,rfl⟩⟩
    ·refine hhold q fun e=> ?_;subst e;rcases hc with hc |hc
     ·exact hnG hc
     ·exact hc ⟨id,inf,hi', .inl h1⟩
  · -- a new array
    rw[hrun]at hbi;have hGw: ∀q,G q→(w.drew.alloc (.cells row el)).heap[q]? =w.heap[q]? :=fun q hG=>heap_alloc_old w.drew _ _ (hs.lt q hG)
    have hplt: ∀q,pp q→q<w.heap.size:=fun q hq=>(hs.own id _ inf hm hi').has_lt ((hp' q).2 (.inr hq))
    have hi2:inf.len<(⟨some w.heap.size,zz,s.n+tq.n,nc, .priv pp⟩:H4).len∧inf.kind≠ .map:=⟨by simp only;omega,by rw[hkind];simp⟩
    have hob:C3 ob (upd ob id (some ⟨some w.heap.size,zz,s.n+tq.n,nc, .priv pp⟩)):=fun q j hj=>by
     by_cases hq:q=id
     ·subst hq;rw[hi']at hj;injection hj with hj;subst hj;exact⟨_,by simp, .inr (.inr hi2)⟩
     ·exact⟨j,by rw[E8 hq];exact hj, .inl rfl⟩
    have hmk: ∃β',A3u G (w.drew.alloc (.cells row el)) (upd ob id (some ⟨some w.heap.size,zz,s.n+tq.n,nc, .priv pp⟩)) row zz (s.app tq) β'∧B5j w.heap.size (s.n+tq.n) zz pp β':=by
     rcases hxcase with⟨_,h2,_,_,h3⟩ |⟨b',arr',T',β,h1,h2,h3,h4,h5,h6⟩
     ·exact mk _ _ _ row (fun _ _=>none) hob hGw (fun q hq=>absurd hq (h3 q)) (.inl ⟨h3,h2⟩) (h3 _) hnew
     ·exact mk _ _ _ row β hob hGw (fun q hq=>heap_alloc_old w.drew _ _ (hplt q hq)) (.inr ⟨arr',b',h5,h6,fun k j hk hj=>hold _ (X1 hk hj) b' _ arr' T' h2 h3⟩) (fun h=>Nat.lt_irrefl _ (hplt _ h)) hnew
    obtain⟨β',hβ1,hβ2⟩:=hmk;obtain⟨s1,s2,s3⟩:=hs.updateP (w':=w.drew.alloc (.cells row el)) id (.arrP zz (s.app tq)) ⟨some w.heap.size,zz,s.n+tq.n,nc, .priv pp⟩ (by simp)
     (fun q hq _=>heap_alloc_old w.drew _ _ hq) (fun j hj=>by rw[hi']at hj;injection hj with hj;exact .inr (.inr (hj▸hi2)))
     (fun q hq=>by
       rcases hq with hq |hq
       ·exact .inr (by simp only[Option.some.injEq]at hq;omega)
       ·exact .inl ⟨inf,hi',(hp' q).2 (.inr hq)⟩) (fun j hj q hq hG=>hGw q hG)
     ⟨rfl,rfl,hnc,pp,rfl, .inr ⟨w.heap.size,row,el,β',rfl,heap_alloc_new w.drew _,hrow',hβ1,hβ2⟩⟩
     (fun _ q hq hG=>by
       rcases hq with hq |hq
       ·simp only[Option.some.injEq]at hq;have:=hs.lt q hG;omega
       ·exact hs.sep id _ inf q hm rfl hi' ((hp' q).2 (.inr hq)) hG)
    refine⟨G,w.drew.alloc (.cells row el),_, .slice (some ⟨w.heap.size,0,none⟩) (s.n+tq.n) nc, .inl hbi,s1,(fun av hav=> ?_),s2,Fr.of_heap (by simp) (fun q hq hc=>heap_alloc_old w.drew _ _ hq) s3 rfl rfl rfl⟩;injection hav with hav;subst hav;refine .sl ⟨some w.heap.size,zz,s.n+tq.n,nc, .priv pp⟩ (by simp) (Nat.le_refl _) ⟨_,_,rfl⟩ fun _=>⟨by simp,fun h=>by simp at h,fun q hq=> ?_⟩;simp only[Option.some.injEq]at hq;subst hq;exact⟨0,nc,rfl,hnc,fun _=>by simp,fun _=>⟨rfl,rfl⟩⟩
theorem D83 {t el ty:TypeId}{i:TypeInfo}{z:Value}{esz bytes:Nat}{cs:Array Bool}{ρ:Operand→Value}{e:AX→Option AV}{x y:Operand}{ax ay:AX}{p:Prop}{r:Res}{d:Nat}
  (ht:P.underlying t=some (.slice el))(hi:P.info? el=some i)(hz:i.zero=some z)(hsize:i.size=esz)(hby:i.bytes=bytes)(hzs:z.cells.size=esz)
  (hs:C8 G w ob m)(hx:cx x=some ax)(hy:cx y=some ay)(he:I8 G w ob ρ e)(hv:eval (.append esz bytes ax ay) e m d=some (p,r))(hp:p):
  C2 P G w ob m (builtin .append #[t,t] ty cs #[ρ x,ρ y]) r:=by
 simp only[eval]at hv;have hbi:(builtin .append #[t,t] ty cs #[ρ x,ρ y]).run P w=((Builtin.append_ #[t,t] ty #[ρ x,ρ y]).run P w).andThen fun v w'=> .ok (.value v) w':=by simp[builtin]
 cases hay:e ay with
 |none=>
  exfalso;rw[hay]at hv;cases hax:e ax with
  |none=>simp[hax]at hv
  |some a=>rw[hax]at hv;split at hv <;> simp_all
 |some b=>
  have hr2:=he y ay b hy hay;cases hax:e ax with
  |none=>simp[hax]at hv
  |some a=>
   have hr:=he x ax a hx hax;rw[hax,hay]at hv;split at hv
   · -- a nil slice
     rename_i b' h1 h2;simp only[Option.some.injEq]at h1 h2;subst h1;subst h2;rw[hr.sc_eq]at hbi;rw[hr.sc_eq];split at hv
     case h_2=>cases hv
     rename_i p' tq hm hsrc;simp only[Option.some.injEq,Prod.mk.injEq]at hv;obtain⟨rfl,rfl⟩:=hv;obtain⟨hp',hb1,hb2⟩:=hp;obtain⟨news,hS⟩:=A5c hs hsrc hp' hr2;have hno:ob (nid d)=none:=(hs.dom _).1 hm;rcases A3s (ty:=ty) ht hi hz hsize hzs hS (x:= .slice none 0 0) (n:=0) (by simpa using hb2) (by simp only[Nat.zero_add];rw[hby];exact hb1) (.inl ⟨.inl rfl,rfl⟩)with⟨h0,hrun⟩ |⟨b,cap,arr,T,_,hxe,_⟩ |⟨nc,row,_,hnc,hrow,hrun,_,hnew⟩
     · -- nothing:the slice stays nil
       rw[hrun]at hbi;have hext:C3 ob (upd ob (nid d) (some ⟨none,esz,0,0, .cells⟩)):=fun q j hj=>⟨j,by rw[E8 (fun e=>by subst e;rw[hno]at hj;cases hj)];exact hj, .inl rfl⟩;obtain⟨s1,s2,s3⟩:=hs.update (w':=w) (nid d) (.arr esz tq) ⟨none,esz,0,0, .cells⟩ (Nat.le_refl _) (fun _ _ _=>rfl) (fun j hj=>by rw[hno]at hj;cases hj)
        (fun b hb=>by cases hb) (fun j hj=>by rw[hno]at hj;cases hj) ⟨rfl,rfl,h0.symm,by simp[h0], .inl ⟨rfl,h0,rfl⟩⟩ (fun _ b hb=>by cases hb) (fun o0 h0=>by rw[hm]at h0;cases h0)
       refine⟨G,w,_, .slice none 0 0, .inl hbi,s1,(fun av hav=> ?_),s2,Fr.of_heap (Nat.le_refl _) (fun _ _ _=>rfl) s3 rfl rfl rfl⟩;injection hav with hav;subst hav;rw[h0];exact .sl ⟨none,esz,0,0, .cells⟩ (by simp) (Nat.le_refl _) ⟨_,_,rfl⟩ fun _=>⟨by simp,fun _=> .inl rfl,fun b hb=>by cases hb⟩
     ·cases hxe
     ·rw[hrun]at hbi;simp only[Nat.zero_add,Nat.zero_mul]at hbi hnc hnew;have hext:C3 ob (upd ob (nid d) (some ⟨some w.heap.size,esz,tq.n,nc, .cells⟩)):=fun q j hj=>⟨j,by rw[E8 (fun e=>by subst e;rw[hno]at hj;cases hj)];exact hj, .inl rfl⟩
      have hGw: ∀b,G b→(w.drew.alloc (.cells row el)).heap[b]? =w.heap[b]? :=fun b hG=>heap_alloc_old w.drew _ _ (hs.lt b hG);refine C2.new (w0:=w.drew) (i:=⟨some w.heap.size,esz,tq.n,nc, .cells⟩) hs hm rfl rfl rfl rfl hbi (fun b hb=>by simpa using hb.symm) ?_ ?_
      ·refine⟨rfl,rfl,rfl,hnc, .inr ⟨w.heap.size,row,el,rfl,heap_alloc_new w.drew _,hrow,hS.glen,fun k j av hk hj=> ?_⟩⟩;obtain⟨h1,h2,u,h3,h4⟩:=hS.relD hk hj;exact⟨h2,u,by rw[hnew _ (X1 hk h1)];exact h3,h4.ext (fun _ h=>h) hGw hext⟩
      ·refine .sl ⟨some w.heap.size,esz,tq.n,nc, .cells⟩ (by simp) (Nat.le_refl _) ⟨_,_,rfl⟩ fun _=>⟨by simp,fun h=>by simp at h,fun b hb=> ?_⟩;simp only[Option.some.injEq]at hb;subst hb;exact⟨0,nc,rfl,hnc,fun _=>by simp,fun _=>⟨rfl,rfl⟩⟩
   · -- a slice without room
     rename_i zz n g b' h1 h2;simp only[Option.some.injEq]at h1 h2;subst h1;subst h2;split at hv
     case h_2=>cases hv
     rename_i p' tq hsrc;split at hv
     case isFalse=>cases hv
     rename_i hze;subst hze;simp only[Option.some.injEq,Prod.mk.injEq]at hv;obtain⟨rfl,rfl⟩:=hv;obtain⟨hp',hb1,hb2⟩:=hp;obtain⟨news,hS⟩:=A5c hs hsrc hp' hr2;exact C90 ht hi hz hsize hby hzs hs hbi hr hS hb1 hb2
   · -- a slice of the call's own
     rename_i id off n tot b' h1 h2;simp only[Option.some.injEq]at h1 h2;subst h1;subst h2;split at hv
     case h_3=>cases hv
     case h_2=>
      rename_i zz s p' tq hm hsrc;split at hv
      case isFalse=>cases hv
      rename_i hze;subst hze;simp only[Option.some.injEq,Prod.mk.injEq]at hv;obtain⟨rfl,rfl⟩:=hv;obtain⟨hp',rfl,rfl,htot,hb1,hb2⟩:=hp;obtain⟨news,hS⟩:=A5c hs hsrc hp' hr2;exact D3q ht hi hz hsize hby hzs hs hm hbi hr hS htot hb1 hb2
     rename_i zz s p' tq hm hsrc;split at hv
     case isFalse=>cases hv
     rename_i hze;subst hze;simp only[Option.some.injEq,Prod.mk.injEq]at hv;obtain⟨rfl,rfl⟩:=hv;obtain⟨hp',rfl,rfl,htot,hb1,hb2⟩:=hp;obtain⟨news,hS⟩:=A5c hs hsrc hp' hr2;cases hi':ob id with
     |none=>rw[(hs.dom id).2 hi']at hm;cases hm
     |some inf=>
      have ho:=hs.own id _ inf hm hi';obtain⟨hmap,hz1,hl1,hc1,hrow⟩:=ho;generalize hxv:ρ x=xv at hr hbi⊢;cases hr with
      |sl i2 hh hle hss hvv=>
       rw[hi']at hh;injection hh with hh;subst hh;obtain⟨_,hvn,hvs⟩:=hvv (by rw[hl1,htot]);have hxcase:((xv= .slice none 0 0∨ ∃a,xv= .slice (some a) 0 0)∧s.n=0∧inf.blk=none∧inf.cap=0)∨ ∃b arr T,inf.blk=some b∧xv= .slice (some ⟨b,0,none⟩) s.n inf.cap∧w.heap[b]? =some (.cells arr T (0,0))∧arr.size=inf.cap*zz∧A5x G w ob arr zz s:=by
        rcases hrow with⟨h1,h2,h3⟩ |⟨b,arr,T,h1,h2,h3,h4⟩
        ·exact .inl ⟨hvn h1,h2,h1,h3⟩
        ·obtain⟨o,c,rfl,_,_,h6⟩:=hvs b h1;obtain⟨rfl,rfl⟩:=h6 rfl;exact .inr ⟨b,arr,T,h1,rfl,h2,by rw[h3,hz1],hz1▸h4⟩
       have hA:=A3s (ty:=ty) ht hi hz hsize hzs hS (x:=xv) (n:=s.n) hb2 (by rw[hby];exact hb1) (by
        rcases hxcase with⟨h1,h2,_⟩ |⟨b,arr,T,h1,h2,h3,h4,_⟩
        ·exact .inl ⟨h1,h2⟩
        ·exact .inr ⟨b,inf.cap,arr,T,h2,h3,hc1,h4⟩)
       have hgapp: ∀k,k<s.n+tq.n→((s.app tq).g k).length=zz:=fun k hk=>by
        simp only[Sq.app];split
        ·rename_i hk1;rcases hxcase with⟨_,h2,_⟩ |⟨b,arr,T,_,_,_,_,h6⟩
         ·omega
         ·exact h6.1 k hk1
        ·exact hS.glen _ (by omega)
       rcases hA with⟨h0,hrun⟩ |⟨b,cap,arr,T,hqne,hxe,hg,hcap,hrun⟩ |⟨nc,row,hq0,hnc,hrow',hrun,hold,hnew⟩
       · -- nothing is appended
         rw[hrun]at hbi;have hup:upd ob id (some inf)=ob:=A0u hi';obtain⟨s1,s2,s3⟩:=hs.update (w':=w) id (.arr zz (s.app tq)) inf (Nat.le_refl _) (fun _ _ _=>rfl) (fun j hj=>by rw[hi']at hj;injection hj with hj;exact .inl hj)
          (fun b hb=> .inl ⟨inf,hi',hb⟩) (fun _ _ _ _ _=>rfl) (by
            rw[hup];refine⟨hmap,hz1,by simp[Sq.app,h0,hl1],by simp[Sq.app,h0,hc1],?_⟩;rcases hrow with⟨h1,h2,h3⟩ |⟨b,arr,T,h1,h2,h3,h4⟩
            ·exact .inl ⟨h1,by simp[Sq.app,h0,h2],h3⟩
            ·refine .inr ⟨b,arr,T,h1,h2,h3,fun k hk=> ?_,fun k j av hk hj=> ?_⟩
             ·simp only[Sq.app,h0,Nat.add_zero]at hk⊢;rw[if_pos hk];exact h4.1 k hk
             ·simp only[Sq.app,h0,Nat.add_zero]at hk hj;rw[if_pos hk]at hj;exact h4.2 k j av hk hj)
          (fun _ b hb=>hs.sep id _ inf b hm rfl hi' (.inl hb)) (fun o0 h0=>by rw[hm]at h0;cases h0;rfl)
         refine⟨G,w,_,xv, .inl hbi,s1,(fun av hav=> ?_),s2,Fr.of_heap (Nat.le_refl _) (fun _ _ _=>rfl) s3 rfl rfl rfl⟩;injection hav with hav;subst hav;rw[hup,h0,Nat.add_zero];exact .sl inf hi' (by omega) hss (fun _=>⟨by omega,hvn,hvs⟩)
       · -- there is room
         rcases hxcase with⟨hn0',hn0,hb0,hc0⟩ |⟨b',arr',T',h1,h2,h3,h4,h5⟩
         ·rcases hn0' with h1 |⟨a,h1⟩
          ·rw[h1]at hxe;cases hxe
          ·rw[h1]at hxe;simp only[Value.slice.injEq]at hxe;omega
         rw[h2]at hxe;simp only[Value.slice.injEq,Option.some.injEq,Addr.mk.injEq,and_true,true_and]at hxe;obtain⟨rfl,rfl⟩:=hxe;rw[h3]at hg;simp only[Option.some.injEq,Obj.cells.injEq,and_true]at hg;obtain⟨rfl,rfl⟩:=hg;rw[hrun]at hbi;have hfit:s.n*zz+news.length≤arr'.size:=by rw[hS.len,h4,←Nat.add_mul];exact Nat.mul_le_mul_right _ hcap
         have hnG: ¬G b':=hs.sep id _ inf b' hm rfl hi' (.inl h1)
         have hhold: ∀q,q≠b'→(w.setRow b' (stored arr' (s.n*zz) news)).heap[q]? =w.heap[q]? :=fun q hk=>setRow_other w b' q _ hk
         have hGw: ∀q,G q→(w.setRow b' (stored arr' (s.n*zz) news)).heap[q]? =w.heap[q]? :=fun q hG=>hhold q (fun e=>hnG (e▸hG))
         have hi2:(⟨some b',zz,s.n+tq.n,inf.cap, .cells⟩:H4)=inf∨(inf.len<(⟨some b',zz,s.n+tq.n,inf.cap, .cells⟩:H4).len∧inf.kind= .cells):=by
          by_cases hq:tq.n=0
          ·left;obtain⟨ib,ie,il,ic,im⟩:=inf;simp only at hz1 hl1 hmap h1;simp[hq,h1,hz1,hl1,hmap]
          ·exact .inr ⟨by simp only;omega,hmap⟩
         have hob:C3 ob (upd ob id (some ⟨some b',zz,s.n+tq.n,inf.cap, .cells⟩)):=fun q j hj=>by
          by_cases hq:q=id
          ·subst hq;rw[hi']at hj;injection hj with hj;subst hj;exact⟨_,by simp,hi2.imp (fun h=>h) fun h=> .inr ⟨h.1,by rw[h.2];simp⟩⟩
          ·exact⟨j,by rw[E8 hq];exact hj, .inl rfl⟩
         obtain⟨s1,s2,s3⟩:=hs.update (w':=w.setRow b' (stored arr' (s.n*zz) news)) id (.arr zz (s.app tq)) ⟨some b',zz,s.n+tq.n,inf.cap, .cells⟩ (by simp)
          (fun q _ hne=>hhold q (fun e=>hne inf hi' (by rw[h1,e]))) (fun j hj=>by rw[hi']at hj;injection hj with hj;exact hj▸hi2)
          (fun q hq=> .inl ⟨inf,hi',by rw[h1];exact hq⟩) (fun j hj q hq hG=>hGw q hG)
          ⟨rfl,rfl,rfl,hcap, .inr ⟨b',_,T',rfl,S0 h3,by rw[A02 _ _ _ hfit,h4],hgapp,fun k j av hk hj=>by
            show av.pure=true∧ ∃v,(stored arr' (s.n*zz) news)[k*zz+j]? =some v∧_;rw[A12 _ _ _ hfit,hS.len];simp only[Sq.app]at hk hj;split at hj
            ·rename_i hk1;obtain⟨c1,u,c2,c3⟩:=h5.2 k j av hk1 hj;have hjl:j<zz:=by
              rw[←h5.1 k hk1];rcases Nat.lt_or_ge j (s.g k).length with h |h
              ·exact h
              ·rw[List.getElem?_eq_none h]at hj;cases hj
             have:=X1 hk1 hjl;rw[if_neg (by omega)];exact⟨c1,u,c2,c3.ext (fun _ h=>h) hGw hob⟩
            ·rename_i hk1;obtain⟨c0,c1,u,c2,c3⟩:=hS.relD (k:=k-s.n) (by omega) hj;have:=X1 (n:=tq.n) (k:=k-s.n) (by omega) c0
             have hge:s.n*zz≤k*zz:=Nat.mul_le_mul_right _ (by omega)
             have hsub:(k-s.n)*zz=k*zz-s.n*zz:=Nat.sub_mul _ _ _;rw[if_pos ⟨by omega,by omega⟩];refine⟨c1,u,?_,c3.ext (fun _ h=>h) hGw hob⟩;have e1:k*zz+j-s.n*zz=(k-s.n)*zz+j:=by omega
             rw[e1];exact c2⟩⟩
          (fun _ q hq=>by simp only[Option.some.injEq]at hq;exact hq▸hnG) (fun o0 h0=>by rw[hm]at h0;cases h0;rfl)
         refine⟨G,w.setRow b' (stored arr' (s.n*zz) news),_, .slice (some ⟨b',0,none⟩) (s.n+tq.n) inf.cap, .inl hbi,s1,(fun av hav=> ?_),s2,Fr.of_heap (by simp) (fun q hq hc=> ?_) s3 rfl rfl rfl⟩
         ·injection hav with hav;subst hav;refine .sl ⟨some b',zz,s.n+tq.n,inf.cap, .cells⟩ (by simp) (Nat.le_refl _) ⟨_,_,rfl⟩ fun _=>⟨by simp,fun h=>by simp at h,fun q hq=> ?_⟩;simp only[Option.some.injEq]at hq;subst hq;exact⟨0,_,rfl,hcap,fun _=>by simp,fun _=>⟨rfl,rfl⟩⟩
         ·refine hhold q fun e=> ?_;subst e;rcases hc with hc |hc
          ·exact hnG hc
          ·exact hc ⟨id,inf,hi', .inl h1⟩
       · -- a new array
         rw[hrun]at hbi;have hGw: ∀q,G q→(w.drew.alloc (.cells row el)).heap[q]? =w.heap[q]? :=fun q hG=>heap_alloc_old w.drew _ _ (hs.lt q hG)
         have hi2:inf.len<(⟨some w.heap.size,zz,s.n+tq.n,nc, .cells⟩:H4).len∧inf.kind= .cells:=⟨by simp only;omega,hmap⟩
         have hob:C3 ob (upd ob id (some ⟨some w.heap.size,zz,s.n+tq.n,nc, .cells⟩)):=fun q j hj=>by
          by_cases hq:q=id
          ·subst hq;rw[hi']at hj;injection hj with hj;subst hj;exact⟨_,by simp, .inr (.inr ⟨hi2.1,by rw[hi2.2];simp⟩)⟩
          ·exact⟨j,by rw[E8 hq];exact hj, .inl rfl⟩
         obtain⟨s1,s2,s3⟩:=hs.update (w':=w.drew.alloc (.cells row el)) id (.arr zz (s.app tq)) ⟨some w.heap.size,zz,s.n+tq.n,nc, .cells⟩ (by simp)
          (fun q hq _=>heap_alloc_old w.drew _ _ hq) (fun j hj=>by rw[hi']at hj;injection hj with hj;exact .inr (hj▸hi2))
          (fun q hq=> .inr (by simp only[Option.some.injEq]at hq;omega)) (fun j hj q hq hG=>hGw q hG)
          ⟨rfl,rfl,rfl,hnc, .inr ⟨w.heap.size,row,el,rfl,heap_alloc_new w.drew _,hrow',hgapp,fun k j av hk hj=>by
            simp only[Sq.app]at hk hj;split at hj
            ·rename_i hk1;rcases hxcase with⟨_,h2,_⟩ |⟨b',arr',T',h1,h2,h3,h4,h5⟩
             ·omega
             ·obtain⟨c1,u,c2,c3⟩:=h5.2 k j av hk1 hj;have hjl:j<zz:=by
               rw[←h5.1 k hk1];rcases Nat.lt_or_ge j (s.g k).length with h |h
               ·exact h
               ·rw[List.getElem?_eq_none h]at hj;cases hj
              exact⟨c1,u,by rw[hold _ (X1 hk1 hjl) b' _ arr' T' h2 h3];exact c2,c3.ext (fun _ h=>h) hGw hob⟩
            ·rename_i hk1;obtain⟨c0,c1,u,c2,c3⟩:=hS.relD (k:=k-s.n) (by omega) hj;have hlt:=X1 (n:=tq.n) (k:=k-s.n) (by omega) c0;refine⟨c1,u,?_,c3.ext (fun _ h=>h) hGw hob⟩;have hge:s.n*zz≤k*zz:=Nat.mul_le_mul_right _ (by omega)
             have hsub:(k-s.n)*zz=k*zz-s.n*zz:=Nat.sub_mul _ _ _
             have e1:k*zz+j=s.n*zz+((k-s.n)*zz+j):=by omega
             rw[e1,hnew _ hlt];exact c2⟩⟩
          (fun _ q hq hG=>by simp only[Option.some.injEq]at hq;have:=hs.lt q hG;omega) (fun o0 h0=>by rw[hm]at h0;cases h0;rfl)
         refine⟨G,w.drew.alloc (.cells row el),_, .slice (some ⟨w.heap.size,0,none⟩) (s.n+tq.n) nc, .inl hbi,s1,(fun av hav=> ?_),s2,Fr.of_heap (by simp) (fun q hq hc=>heap_alloc_old w.drew _ _ hq) s3 rfl rfl rfl⟩;injection hav with hav;subst hav;refine .sl ⟨some w.heap.size,zz,s.n+tq.n,nc, .cells⟩ (by simp) (Nat.le_refl _) ⟨_,_,rfl⟩ fun _=>⟨by simp,fun h=>by simp at h,fun q hq=> ?_⟩;simp only[Option.some.injEq]at hq;subst hq;exact⟨0,nc,rfl,hnc,fun _=>by simp,fun _=>⟨rfl,rfl⟩⟩
   ·cases hv
end
end Go.Abs
end
section
namespace Go.Abs
section
variable {P:Program} {G:Nat→Prop} {w:World} {ob:Place} {m:Nat→Option A8}
theorem D7j {s:Sem Next}{id esz len cap:Nat}{g:Nat→List AV}{vs:Array Value}{T:TypeId}(hs:C8 G w ob m)(hid:m id=none)(hlc:len≤cap)
  (hn:vs.size=cap*esz)(hlen: ∀k,k<len→(g k).length=esz)
  (hrel: ∀(k j:Nat) (av:AV),k<len→(g k)[j]? =some av→av.pure=true∧ ∃u,vs[k*esz+j]? =some u∧Rel G w ob av u)
  (h:s.run P w= .ok (.value (.slice (some ⟨w.heap.size,0,none⟩) len cap)) (w.alloc (.cells vs T))):C2 P G w ob m s ⟨some (.sl id 0 len len),[(id, .arr esz ⟨len,g⟩)]⟩:=by
 have hno:ob id=none:=(hs.dom id).1 hid
 have hext:C3 ob (upd ob id (some ⟨some w.heap.size,esz,len,cap, .cells⟩)):=fun x j hj=>by
  have hx:x≠id:=fun e=>by subst e;rw[hno]at hj;cases hj
  exact⟨j,by rw[E8 hx];exact hj, .inl rfl⟩
 have hGw: ∀b,G b→(w.alloc (.cells vs T)).heap[b]? =w.heap[b]? :=fun b hG=>heap_alloc_old _ _ _ (hs.lt b hG);refine C2.new (w0:=w) (i:=⟨some w.heap.size,esz,len,cap, .cells⟩) hs hid rfl rfl rfl rfl h (fun b hb=>by simpa using hb.symm) ?_ ?_
 ·refine⟨rfl,rfl,rfl,hlc, .inr ⟨w.heap.size,vs,T,rfl,heap_alloc_new _ _,hn,hlen,fun k j av hk hj=> ?_⟩⟩;obtain⟨h1,u,h2,h3⟩:=hrel k j av hk hj;exact⟨h1,u,h2,h3.ext (fun _ h=>h) hGw hext⟩
 ·refine .sl ⟨some w.heap.size,esz,len,cap, .cells⟩ (by simp) (Nat.le_refl _) ⟨_,_,rfl⟩ fun _=>⟨by simp,fun h=>by simp at h,fun b hb=> ?_⟩;simp only[Option.some.injEq]at hb;subst hb;exact⟨0,cap,rfl,hlc,fun _=>by simp,fun _=>⟨rfl,rfl⟩⟩
theorem E0m(z:Array Value)(n q:Nat)(hq:q<n)(hz:0<z.size):(madeCells z n)[q]? =z[q%z.size]? :=by have hlt:=Nat.mod_lt q hz;simp only[madeCells,Array.getElem?_map,Array.getElem?_range,hq,if_true,Option.map_some];rw[getElem!_pos z (q%z.size) hlt,Array.getElem?_eq_getElem hlt]
theorem D7z {t el:TypeId}{i:TypeInfo}{z:Value}{esz bytes:Nat}{ρ:Operand→Value}{e:AX→Option AV}{x y:Operand}{ax ay:AX}{p:Prop}{r:Res}{d:Nat}
  (ht:P.underlying t=some (.slice el))(hi:P.info? el=some i)(hz:i.zero=some z)(hsize:i.size=esz)(hby:i.bytes=bytes)(hzs:z.cells.size=esz)(hone:z.cells.all Value.oneCell'=true)
  (hs:C8 G w ob m)(hx:cx x=some ax)(hy:cx y=some ay)(he:I8 G w ob ρ e)(hv:eval (.mkslice esz bytes z.cells.toList ax ay) e m d=some (p,r))(hp:p):
  C2 P G w ob m (do pure (.value (←Instr.makeSlice t (ρ x) (ρ y)))) r:=by
 subst hsize;subst hby
 simp only[eval]at hv;split at hv
 case h_2=>cases hv
 rename_i k1 l k2 c hm hax hay;simp only[Option.some.injEq,Prod.mk.injEq]at hv;obtain⟨rfl,rfl⟩:=hv;obtain⟨h0,hlc,hb,h63⟩:=hp;rw[(he x ax _ hx hax).sc_eq,(he y ay _ hy hay).sc_eq];have hr:=run_make (P:=P) w t el i z ht hi hz k1 k2 l c h0 hlc hb h63;refine D7j (cap:=c.toNat) (vs:=madeCells z.cells (c.toNat*i.size)) (T:=el) hs hm (by omega) (size_madeCells _ _) (fun k hk=>by simp[hzs]) (fun k j av hk hj=> ?_) (by simp[hr]);rw[List.getElem?_map,Option.map_eq_some_iff]at hj;obtain⟨u,hu,rfl⟩:=hj;have hu':z.cells[j]? =some u:=by simpa using hu
 have hjl:j<i.size:=by
  rw[←hzs];rcases Nat.lt_or_ge j z.cells.size with h |h
  ·exact h
  ·rw[Array.getElem?_eq_none h]at hu';cases hu'
 refine⟨rfl,u,?_, .sc (Array.all_eq_true'.1 hone u (Array.mem_of_getElem? hu'))⟩;rw[E0m _ _ _ (X1 (by omega) hjl) (by omega),hzs,Nat.mul_comm,Nat.mul_add_mod,Nat.mod_eq_of_lt hjl];exact hu'
theorem E0p {t el:TypeId}{len esz:Nat}{ρ:Operand→Value}{e:AX→Option AV}{x y:Operand}{ax ay:AX}{p:Prop}{r:Res}{d:Nat}
  (ht:P.underlying t=some (.array len el))(hz:P4 P el=some esz)
  (hs:C8 G w ob m)(hx:cx x=some ax)(hy:cx y=some ay)(he:I8 G w ob ρ e)(hv:eval (.aaddr len esz ax ay) e m d=some (p,r))(hp:p):
  C2 P G w ob m (do pure (.value (←Instr.indexAt t (ρ x) (ρ y)))) r:=by
 have key: ∀(a:Addr) (k:IntKind) (j:Int),0≤j→j<len→(Instr.indexAt t (.pointer (some a)) (.int k j)).run P w= .ok (.pointer (some (a.add (j.toNat*esz)))) w:=fun a k j h0 h1=>by simp[Instr.indexAt,A9h,run_underlying ht,h0,h1,O8 hz,Instr.sureAddr]
 simp only[eval]at hv;split at hv
 ·rename_i cs k j hax hay;simp only[Option.some.injEq,Prod.mk.injEq]at hv;obtain⟨rfl,rfl⟩:=hv;obtain⟨h0,h1⟩:=hp;have hr:=he x ax _ hx hax;rw[(he y ay _ hy hay).sc_eq];generalize ρ x=v at hr;cases hr with
  |fptr b o c hG hpp hc hrr=>refine C2.quiet hs (v:= .pointer (some ⟨b,o+j.toNat*esz,none⟩)) (by simp[key _ _ _ h0 h1,V9]) ?_;refine .fptr b _ (fun q=>c (j.toNat*esz+q)) hG (fun q av hq=>hpp _ av (getElem?_drop_lt hq)) (fun q hq=> ?_) (fun q av hq=>hrr _ av (getElem?_drop_lt hq));rw[Nat.add_assoc];exact hc _ (by rw[List.length_drop]at hq;omega)
 ·rename_i id k o tot k' j hax hay;simp only[Option.some.injEq,Prod.mk.injEq]at hv;obtain⟨rfl,rfl⟩:=hv;obtain⟨h0,h1⟩:=hp;have hr:=he x ax _ hx hax;rw[(he y ay _ hy hay).sc_eq];generalize ρ x=v at hr;cases hr with
  |ptr a i h hle hvv=>refine C2.quiet hs (v:= .pointer (some (a.add (j.toNat*esz)))) (by simp[key _ _ _ h0 h1]) ?_;refine .ptr _ i h hle fun hl=> ?_;obtain⟨b,h2,rfl,h3⟩:=hvv hl;exact⟨b,h2,by rw[V9,Nat.add_assoc],h3⟩
 ·cases hv
theorem D93 {t:TypeId}{k:IntKind}{e:AX→Option AV}{p:Prop}{r:Res}{d:Nat}
  (hs:C8 G w ob m)(hv:eval (.mkmap k) e m d=some (p,r)):C2 P G w ob m (do pure (.value (←Instr.makeMap t none))) r:=by
 simp only[eval]at hv;cases hm:m (nid d)with
 |some o=>simp[hm]at hv
 |none=>
  simp only[hm,Option.some.injEq,Prod.mk.injEq]at hv;obtain⟨_,rfl⟩:=hv;refine C2.new (w0:=w) (x:= .map #[] 0) (i:=⟨some w.heap.size,0,0,0, .map⟩) hs hm rfl rfl rfl rfl (v:= .map (some w.heap.size)) ?_ (fun b hb=>by simpa using hb.symm) ?_ ?_
  ·simp[Instr.makeMap]
  ·exact⟨rfl,w.heap.size,#[],0,rfl,heap_alloc_new _ _,rfl,fun j z av h=>by simp at h⟩
  ·exact .mp _ ⟨some w.heap.size,0,0,0, .map⟩ (by simp) rfl rfl
theorem B4d {k kk:IntKind}{z:Int}: ∀(es:List (Int×AV)) (ents:List MapEntry) (q:Nat),ents.length=es.length→
  (∀(j:Nat) (z':Int) (av:AV),es[j]? =some (z',av)→ ∃(x:MapEntry),ents[j]? =some x∧x.key= .int k z')→
  Instr.findNow (.int kk) (.int k z) ents q=some ((es.findIdx? (fun x=>z==x.1)).bind fun j=>(ents[j]?).map fun x=>(q+j,x.val))
 | [],[],q,_,_=>by simp[Instr.findNow]
 | [],_::_,q,h,_=>by simp at h
 |_::_,[],q,h,_=>by simp at h
 |(z',av)::es,x::ents,q,h,hk=>by
  obtain⟨x',h1,h2⟩:=hk 0 z' av (by simp);simp only[List.getElem?_cons_zero,Option.some.injEq]at h1;subst h1;have ih:=B4d (kk:=kk) (z:=z) es ents (q+1) (by simpa using h) (fun j z' av hj=>by obtain⟨y,h3,h4⟩:=hk (j+1) z' av (by simpa using hj);exact⟨y,by simpa using h3,h4⟩)
  simp only[Instr.findNow,h2,Instr.sameNow,if_true,List.findIdx?_cons];by_cases hz:(z==z')=true
  ·simp[hz]
  ·have hz':(z==z')=false:=by simpa using hz
   simp only[hz',ih,Bool.false_eq_true,if_false];cases es.findIdx? (fun x=>z==x.1)with
   |none=>rfl
   |some j=>simp[Nat.add_assoc,Nat.add_comm 1 j]
theorem D0o: ∀(es:List (Int×AV)) (z:Int),B9q es z=(es.findIdx? (fun x=>z==x.1)).bind fun j=>(es[j]?).map (·.2)
 | [],z=>rfl
 |(z',av)::es,z=>by
  simp only[B9q,List.findIdx?_cons,D0o es z];split
  ·simp
  ·cases es.findIdx? (fun x=>z==x.1) <;> simp
theorem C4k {v:Value}(h:v.cells.all Value.oneCell'=true)(hv: ∀vs,v≠ .tuple vs):Rel G w ob (B9m v) v:=by
 cases v with
 |agg cs=>have:=C6w (G:=G) (w:=w) (ob:=ob) (Z:=cs) h;exact .agg cs this.1 this.2.1 this.2.2
 |tuple vs=>exact absurd rfl (hv vs)
 |_=>exact .sc rfl
theorem B2c {kt:TypeId}{k:IntKind}{b:Bool}{n:Nat}{z:Int}{k':IntKind}(hk:P.underlying kt=some (.int k)):(Instr.checkKey b (n+1) kt (.int k' z)).run P w= .ok () w:=by simp[Instr.checkKey,run_underlying hk]
theorem D9s {t kt el:TypeId}{k:IntKind}{zero:Value}{ok:Bool}{ρ:Operand→Value}{e:AX→Option AV}{x y:Operand}{ax ay:AX}{p:Prop}{r:Res}{d:Nat}
  (ht:P.underlying t=some (.map kt el))(hk:P.underlying kt=some (.int k))(hz:(P.info? el).bind (·.zero)=some zero)
  (hone:zero.cells.all Value.oneCell'=true)(hnt: ∀vs,zero≠ .tuple vs)
  (hs:C8 G w ob m)(hx:cx x=some ax)(hy:cx y=some ay)(he:I8 G w ob ρ e)(hv:eval (.lookup k zero ok ax ay) e m d=some (p,r)):
  C2 P G w ob m (do pure (.value (←Instr.lookup t (ρ x) (ρ y) ok))) r:=by
 simp only[eval]at hv;split at hv
 case h_2=>cases hv
 rename_i id k' z hax hay;have hr:=he x ax _ hx hax;rw[(he y ay _ hy hay).sc_eq];split at hv
 case h_2=>cases hv
 rename_i k'' es hm;split at hv
 case isFalse=>cases hv
 rename_i hkk;obtain⟨rfl,rfl⟩:=hkk;simp only[Option.some.injEq,Prod.mk.injEq]at hv;obtain⟨_,rfl⟩:=hv;generalize ρ x=v at hr;cases hr with
 |mp b i h hb hmap=>
  obtain⟨_,b',ents,clock,h1,h2,h3,h4⟩:=hs.own id _ i hm h;rw[hb]at h1;injection h1 with h1;subst h1;have hfn:=B4d (k:=k) (kk:=k) (z:=z) es ents.toList 0 (by simpa using h3) (fun j z' av hj=>by obtain⟨_,x,h5,h6,_⟩:=h4 j z' av hj;exact⟨x,by simpa using h5,h6⟩)
  have hck:(Instr.checkKey ents.isEmpty 10000 kt (.int k z)).run P w= .ok () w:=B2c hk
  -- what the lookup finds
  have found: ∃u fnd,(Instr.lookup t (.map (some b)) (.int k z) ok).run P w= .ok (if ok then .tuple #[u, .bool fnd]else u) w∧fnd=(B9q es z).isSome∧
    Rel G w ob ((B9q es z).getD (B9m zero)) u:=by
   rw[D0o];have hget:(getObj b).run P w= .ok (.map ents clock) w:=by simp[getObj,Sem.run,h2]
   cases hfi:es.findIdx? (fun x=>z==x.1)with
   |none=>
    rw[hfi]at hfn;refine⟨zero,false,?_,rfl,C4k hone hnt⟩;have hfk:(Instr.findKey kt (.int k z) ents.toList).run P w= .ok none w:=by simp only[Option.bind_none]at hfn;simp[Instr.findKey,run_underlying hk,hfn]
    cases ok <;> simp only[Instr.lookup,Sem.run_bind,run_underlying ht,Result.andThen_ok,hget,Sem.run_pure,hck,hfk,A6w hz,Bool.false_eq_true,if_false,if_true]
   |some j=>
    have hj:j<es.length:=by have:=List.findIdx?_eq_some_iff_findIdx_eq.1 hfi;exact this.1
    obtain⟨hfl,x,h5,h6,h7⟩:=h4 j es[j].1 es[j].2 (by simp[List.getElem?_eq_getElem hj]);have h5':ents.toList[j]? =some x:=by simpa using h5
    rw[hfi]at hfn;simp only[Option.bind_some,h5',Option.map_some,Nat.zero_add]at hfn;refine⟨x.val,true,?_,by simp[List.getElem?_eq_getElem hj],by simpa[List.getElem?_eq_getElem hj]using h7⟩;have hfk:(Instr.findKey kt (.int k z) ents.toList).run P w= .ok (some (j,x.val)) w:=by simp[Instr.findKey,run_underlying hk,hfn]
    cases ok <;> simp only[Instr.lookup,Sem.run_bind,run_underlying ht,Result.andThen_ok,hget,Sem.run_pure,hck,hfk,Bool.false_eq_true,if_false,if_true]
  obtain⟨u,fnd,hrun,rfl,hrel⟩:=found;cases ok with
  |false=>exact C2.quiet hs (v:=u) (by simp[hrun]) (by simpa using hrel)
  |true=>
   refine C2.quiet hs (v:= .tuple #[u, .bool (B9q es z).isSome]) (by simp[hrun]) ?_;simp only[if_true];refine .tup _ rfl fun j av hj=> ?_;cases j with
   |zero=>simp only[List.getElem?_cons_zero,Option.some.injEq]at hj;subst hj;exact hrel
   |succ j=>cases j with
    |zero=>simp only[List.getElem?_cons_succ,List.getElem?_cons_zero,Option.some.injEq]at hj;subst hj;exact .sc rfl
    |succ j=>simp at hj
theorem C35: ∀(es:List (Int×AV)) (z:Int) (v:AV),B3s es z v=match es.findIdx? (fun x=>z==x.1)with
  |some j=>es.modify j (fun x=>(x.1,v))
  |none=>es++ [(z,v)]
 | [],z,v=>rfl
 |(z',u)::es,z,v=>by
  simp only[B3s,List.findIdx?_cons,C35 es z v];split
  ·simp
  ·cases es.findIdx? (fun x=>z==x.1) <;> simp
theorem E45 {t kt el:TypeId}{k:IntKind}{ρ:Operand→Value}{e:AX→Option AV}{x y u:Operand}{ax ay au:AX}{p:Prop}{r:Res}{d:Nat}
  (ht:P.underlying t=some (.map kt el))(hk:P.underlying kt=some (.int k))
  (hs:C8 G w ob m)(hx:cx x=some ax)(hy:cx y=some ay)(hu:cx u=some au)(he:I8 G w ob ρ e)(hv:eval (.mset k ax ay au) e m d=some (p,r)):
  C2 P G w ob m (do Instr.mapUpdate t (ρ x) (ρ y) (ρ u);pure .skip) r:=by
 simp only[eval]at hv;split at hv
 case h_2=>cases hv
 rename_i id k' z av hax hay hau;have hr:=he x ax _ hx hax
 have hru:=he u au _ hu hau;rw[(he y ay _ hy hay).sc_eq];split at hv
 case h_2=>cases hv
 rename_i k'' es hm;split at hv
 case isFalse=>cases hv
 rename_i hkk;obtain⟨rfl,rfl,hflat⟩:=hkk;simp only[Option.some.injEq,Prod.mk.injEq]at hv;obtain⟨_,rfl⟩:=hv;generalize ρ x=v at hr;generalize ρ u=vu at hru;cases hr with
 |mp b i h hb hmap=>
  obtain⟨hmp,b',ents,clock,h1,h2,h3,h4⟩:=hs.own id _ i hm h;rw[hb]at h1;injection h1 with h1;subst h1;have hfn:=B4d (k:=k) (kk:=k) (z:=z) es ents.toList 0 (by simpa using h3) (fun j z' av hj=>by obtain⟨_,x,h5,h6,_⟩:=h4 j z' av hj;exact⟨x,by simpa using h5,h6⟩)
  have hck:(Instr.checkKey false 10000 kt (.int k z)).run P w= .ok () w:=B2c hk
  have hget:(getObj b).run P w= .ok (.map ents clock) w:=by simp[getObj,Sem.run,h2]
  have hblt:b<w.heap.size:=by
   rcases Nat.lt_or_ge b w.heap.size with h |h
   ·exact h
   ·rw[Array.getElem?_eq_none h]at h2;cases h2
  have hsetO: ∀o,(setObj b o).run P w= .ok () {w with heap:=w.heap.setIfInBounds b o}:=fun o=>by simp[setObj,Sem.run,h2]
  have hnG: ¬G b:=hs.sep id _ i b hm rfl h (.inl hb)
  -- the common end
  have fin: ∀(ents':Array MapEntry) (clock':Nat),(Instr.mapUpdate t (.map (some b)) (.int k z) vu).run P w= .ok () {w with heap:=w.heap.setIfInBounds b (.map ents' clock')}→
    ents'.size=(B3s es z av).length→(∀(j:Nat) (z':Int) (a:AV),(B3s es z av)[j]? =some (z',a)→a.flat=true∧ ∃(x:MapEntry),ents'[j]? =some x∧x.key= .int k z'∧Rel G w ob a x.val)→
    C2 P G w ob m (do Instr.mapUpdate t (.map (some b)) (.int k z) vu;pure .skip) ⟨none,[(id, .map k (B3s es z av))]⟩:=by
   intro ents' clock' hrun hlen hents;have hhold: ∀q,q≠b→({w with heap:=w.heap.setIfInBounds b (.map ents' clock')}:World).heap[q]? =w.heap[q]? :=fun q hq=>Array.getElem?_setIfInBounds_ne (Ne.symm hq)
   have hGw: ∀q,G q→({w with heap:=w.heap.setIfInBounds b (.map ents' clock')}:World).heap[q]? =w.heap[q]? :=fun q hG=>hhold q (fun e=>hnG (e▸hG))
   have hup:upd ob id (some i)=ob:=A0u h;obtain⟨s1,s2,s3⟩:=hs.update (w':= {w with heap:=w.heap.setIfInBounds b (.map ents' clock')}) id (.map k (B3s es z av)) i (by simp)
    (fun q _ hne=>hhold q (fun e=>hne i h (by rw[hb,e]))) (fun j hj=>by rw[h]at hj;injection hj with hj;exact .inl hj)
    (fun q hq=> .inl ⟨i,h,hq⟩) (fun j hj q hq hG=>hGw q hG)
    ⟨hmp,b,ents',clock',hb,by simp[hblt],hlen,fun j z' a hj=>by obtain⟨c1,x,c2,c3,c4⟩:=hents j z' a hj;exact⟨c1,x,c2,c3,c4.ext (fun _ h=>h) hGw (by rw[hup];exact C3.refl ob)⟩⟩
    (fun _ q hq=>by rw[hb]at hq;injection hq with hq;exact hq▸hnG) (fun o0 h0=>by rw[hm]at h0;cases h0;rfl)
   refine⟨G,{w with heap:=w.heap.setIfInBounds b (.map ents' clock')},_,undef, .inr ⟨by simp[hrun],rfl⟩,s1,(fun _ hh=>by cases hh),s2,Fr.of_heap (by simp) (fun q hq hc=> ?_) s3 rfl rfl rfl⟩;refine hhold q fun e=> ?_;subst e;rcases hc with hc |hc
   ·exact hnG hc
   ·exact hc ⟨id,i,h, .inl hb⟩
  cases hfi:es.findIdx? (fun x=>z==x.1)with
  |none=>
   rw[hfi]at hfn;simp only[Option.bind_none]at hfn;have hfk:(Instr.findKey kt (.int k z) ents.toList).run P w= .ok none w:=by simp[Instr.findKey,run_underlying hk,hfn]
   have hmp':B3s es z av=es++ [(z,av)]:=by rw[C35,hfi]
   refine fin (ents.push {key:= .int k z,val:=vu,born:=clock}) (clock+1) ?_ (by simp[hmp',h3]) (fun j z' a hj=> ?_)
   ·simp[Instr.mapUpdate,run_underlying ht,hget,hck,hfk,hsetO]
   ·rw[hmp']at hj;by_cases hjl:j<es.length
    ·rw[List.getElem?_append_left hjl]at hj;obtain⟨c1,x,c2,c3,c4⟩:=h4 j z' a hj;exact⟨c1,x,by rw[Array.getElem?_push,if_neg (by omega)];exact c2,c3,c4⟩
    ·rw[List.getElem?_append_right (by omega)]at hj;have hje:j=es.length:=by
      rcases Nat.lt_or_ge (j-es.length) 1 with h |h
      ·omega
      ·rw[List.getElem?_eq_none (by simpa using h)]at hj;cases hj
     subst hje;simp only[Nat.sub_self,List.getElem?_cons_zero,Option.some.injEq,Prod.mk.injEq]at hj;obtain⟨rfl,rfl⟩:=hj;exact⟨hflat,_,by rw[Array.getElem?_push,if_pos h3.symm],rfl,hru⟩
  |some j=>
   have hj:=List.findIdx?_eq_some_iff_findIdx_eq.1 hfi
   have hjl:j<es.length:=hj.1
   have hzj:(z==es[j].1)=true:=by
    have h1:=hj.2
    have h2:List.findIdx (fun x:Int×AV=>z==x.1) es<es.length:=by rw[h1];exact hjl
    have:=List.findIdx_getElem (w:=h2);simpa only[h1]using this
   obtain⟨hfl,x,h5,h6,h7⟩:=h4 j es[j].1 es[j].2 (by simp[List.getElem?_eq_getElem hjl]);have h5':ents.toList[j]? =some x:=by simpa using h5
   rw[hfi]at hfn;simp only[Option.bind_some,h5',Option.map_some,Nat.zero_add]at hfn;have hfk:(Instr.findKey kt (.int k z) ents.toList).run P w= .ok (some (j,x.val)) w:=by simp[Instr.findKey,run_underlying hk,hfn]
   have hkey:x.key= .int k z:=by rw[h6];simp only[beq_iff_eq]at hzj;rw[hzj]
   have hstay:(Instr.keyThatStays (((ents[j]?).map (·.key)).getD (.int k z)) (.int k z)).run P w= .ok (.int k z) w:=by simp[Instr.keyThatStays,h5,hkey,Instr.sameBits]
   have hmp':B3s es z av=es.modify j (fun x=>(x.1,av)):=by rw[C35,hfi]
   refine fin (ents.modify j fun e=> {e with key:= .int k z,val:=vu}) clock ?_ (by simp[hmp',h3]) (fun q z' a hq=> ?_)
   ·simp[Instr.mapUpdate,run_underlying ht,hget,hck,hfk,hsetO,hstay]
   ·rw[hmp']at hq;rw[List.getElem?_modify]at hq;rw[Array.getElem?_modify];by_cases hqj:j=q
    ·subst hqj;simp only[if_true,List.getElem?_eq_getElem hjl,Option.map_some,Option.some.injEq,Prod.mk.injEq]at hq;obtain⟨rfl,rfl⟩:=hq;refine⟨hflat,_,by rw[if_pos rfl,h5];rfl,?_,hru⟩;simp only[beq_iff_eq]at hzj;simp[hzj]
    ·rw[if_neg hqj];simp only[hqj,if_false,Option.map_id_fun',id_eq,Option.map_eq_map,Option.map_id']at hq;exact h4 q z' a hq
end
def A61(P:Program)(S:TypeId→Option (List Bool)):List Field→Nat→Option (List Bool)
 | [],_=>some []
 |f::fs,off=>match S f.type with
  |some sh=>if f.name≠ "_" ∧f.offset=off∧P4 P f.type=some sh.length then(match A61 P S fs (off+sh.length)with
   |some r=>some (sh++r)
   |none=>none)else none
  |none=>none
def A3v(P:Program):Nat→TypeId→Option (List Bool)
 |0,_=>none
 |d+1,t=>match P.underlying t with
  |some (.int _)=>some [true]
  |some .bool=>some [false]
  |some (.struct fs)=>if P.stoodInHeld t then none else A61 P (A3v P d) fs.toList 0
  |some (.array n el)=>match A3v P d el with
   |some sh=>if P.cellsOf el=sh.length∧P4 P el=some sh.length then some (List.replicate n sh).flatten else none
   |none=>none
  |_=>none
def U9(P:Program)(op:BinOp)(t:TypeId):Option (List Bool):=
 match op with
 | .eql | .neq=>match P.underlying t with
   |some (.struct _) |some (.array _ _)=>if P.eqGuardType P.depth t then none else A3v P 100 t
   |_=>none
 |_=>none
def C98:BinOp→Bool
 | .neq=>true
 |_=>false
def eqV:List Bool→List Value→List Value→Option Bool
 | [],[],[]=>some true
 |true::s, .int k a::xs, .int k' b::ys=>if k=k' then(eqV s xs ys).map fun r=>(a==b)&&r else none
 |false::s, .bool a::xs, .bool b::ys=>(eqV s xs ys).map fun r=>(a==b)&&r
 |_,_,_=>none
section
variable {P:Program} {G:Nat→Prop} {w:World} {ob:Place} {m:Nat→Option A8}
theorem D2x: ∀(sh:List Bool) (cs ds:List AV) (xs ys:List Value) (r:Bool),A7f sh cs ds=some r→xs.length=cs.length→ys.length=ds.length→
  (∀(j:Nat) (av:AV),cs[j]? =some av→Rel G w ob av (xs.getD j undef))→(∀(j:Nat) (av:AV),ds[j]? =some av→Rel G w ob av (ys.getD j undef))→eqV sh xs ys=some r
 | [],[],[],[],[],r,h,_,_,_,_=>by simpa[A7f,eqV]using h
 |true::sh, .sc (.int k a)::cs, .sc (.int k' b)::ds,x::xs,y::ys,r,h,h1,h2,h3,h4=>by
  have hx:x= .int k a:=(h3 0 _ rfl).sc_eq
  have hy:y= .int k' b:=(h4 0 _ rfl).sc_eq;subst hx;subst hy;simp only[A7f]at h;simp only[eqV];split at h
  ·rename_i e;rw[if_pos e];simp only[Option.map_eq_some_iff]at h⊢;obtain⟨r',hr',rfl⟩:=h;exact⟨r',D2x sh cs ds xs ys r' hr' (by simpa using h1) (by simpa using h2) (fun j av hj=>h3 (j+1) av (by simpa using hj)) (fun j av hj=>h4 (j+1) av (by simpa using hj)),rfl⟩
  ·cases h
 |false::sh, .sc (.bool a)::cs, .sc (.bool b)::ds,x::xs,y::ys,r,h,h1,h2,h3,h4=>by
  have hx:x= .bool a:=(h3 0 _ rfl).sc_eq
  have hy:y= .bool b:=(h4 0 _ rfl).sc_eq;subst hx;subst hy;simp only[A7f,Option.map_eq_some_iff]at h;simp only[eqV,Option.map_eq_some_iff];obtain⟨r',hr',rfl⟩:=h;exact⟨r',D2x sh cs ds xs ys r' hr' (by simpa using h1) (by simpa using h2) (fun j av hj=>h3 (j+1) av (by simpa using hj)) (fun j av hj=>h4 (j+1) av (by simpa using hj)),rfl⟩
 |_,[],_,_::_,_,_,_,h1,_,_,_=>by simp at h1
 |_,_::_,_,[],_,_,_,h1,_,_,_=>by simp at h1
 |_,_,[],_,_::_,_,_,_,h2,_,_=>by simp at h2
 |_,_,_::_,_,[],_,_,_,h2,_,_=>by simp at h2
theorem A2z: ∀ {sh:List Bool} {xs ys:List Value} {r:Bool},eqV sh xs ys=some r→xs.length=sh.length∧ys.length=sh.length
 | [],[],[],_,_=>⟨rfl,rfl⟩
 |true::sh, .int k a::xs, .int k' b::ys,r,h=>by
  simp only[eqV]at h;split at h
  ·simp only[Option.map_eq_some_iff]at h;obtain⟨r',hr',_⟩:=h;obtain⟨h1,h2⟩:=A2z hr';exact⟨by simp[h1],by simp[h2]⟩
  ·cases h
 |false::sh, .bool a::xs, .bool b::ys,r,h=>by simp only[eqV,Option.map_eq_some_iff]at h;obtain⟨r',hr',_⟩:=h;obtain⟨h1,h2⟩:=A2z hr';exact⟨by simp[h1],by simp[h2]⟩
theorem A5z: ∀(s1 s2:List Bool) (xs ys:List Value) (r:Bool),eqV (s1++s2) xs ys=some r→
  ∃r1 r2,eqV s1 (xs.take s1.length) (ys.take s1.length)=some r1∧eqV s2 (xs.drop s1.length) (ys.drop s1.length)=some r2∧r=(r1&&r2)
 | [],s2,xs,ys,r,h=>⟨true,r,rfl,by simpa using h,by simp⟩
 |true::s1,s2, .int k a::xs, .int k' b::ys,r,h=>by
  simp only[List.cons_append,eqV]at h;split at h
  ·rename_i e;simp only[Option.map_eq_some_iff]at h;obtain⟨r',hr',rfl⟩:=h;obtain⟨r1,r2,g1,g2,rfl⟩:=A5z s1 s2 xs ys r' hr';exact⟨(a==b)&&r1,r2,by simp[eqV,e,g1],by simpa using g2,by rw[Bool.and_assoc]⟩
  ·cases h
 |false::s1,s2, .bool a::xs, .bool b::ys,r,h=>by simp only[List.cons_append,eqV,Option.map_eq_some_iff]at h;obtain⟨r',hr',rfl⟩:=h;obtain⟨r1,r2,g1,g2,rfl⟩:=A5z s1 s2 xs ys r' hr';exact⟨(a==b)&&r1,r2,by simp[eqV,g1],by simpa using g2,by rw[Bool.and_assoc]⟩
def D0b(P:Program)(w:World)(D:Nat)(t:TypeId)(sh:List Bool):Prop:=
 ∀(xs ys:List Value) (r:Bool),eqV sh xs ys=some r→
  (L7 P t=some false∧ ∃v u,xs= [v]∧ys= [u]∧(Op.equalIn D t v u).run P w= .ok r w)∨
  (L7 P t=some true∧(Op.equalIn D t (.agg xs.toArray) (.agg ys.toArray)).run P w= .ok r w)
theorem E3x {D:Nat}{t:TypeId}{s1:List Bool}{r1:Bool}(h:D0b P w D t s1)(hsz:P4 P t=some s1.length)(xs ys:Array Value)(off:Nat)
  (g1:eqV s1 ((xs.toList.drop off).take s1.length) ((ys.toList.drop off).take s1.length)=some r1):
  ∃a b,(part t xs off).run P w= .ok a w∧(part t ys off).run P w= .ok b w∧(Op.equalIn D t a b).run P w= .ok r1 w:=by
 rcases h _ _ r1 g1 with⟨ha,v,u,hx,hy,he⟩ |⟨ha,he⟩
 ·have get: ∀(zs:Array Value) (v:Value),(zs.toList.drop off).take s1.length= [v]→zs[off]? =some v:=fun zs v hz=>by
   have h0:((zs.toList.drop off).take s1.length)[0]? =some v:=by rw[hz];rfl
   rw[List.getElem?_take]at h0;split at h0
   ·rw[List.getElem?_drop]at h0;simpa using h0
   ·cases h0
  refine⟨v,u,?_,?_,he⟩
  ·simp[part,T6 ha,get xs v hx]
  ·simp[part,T6 ha,get ys u hy]
 ·have ext: ∀(zs:Array Value),(part t zs off).run P w= .ok (.agg ((zs.toList.drop off).take s1.length).toArray) w:=fun zs=>by
   have:zs.extract off (off+s1.length)=((zs.toList.drop off).take s1.length).toArray:=by rw[←Array.toList_inj];simp[Array.toList_extract,List.extract]
   simp[part,T6 ha,O8 hsz,this]
  exact⟨_,_,ext xs,ext ys,he⟩
theorem C5h {D:Nat}{e:TypeId}{sh:List Bool}(h:D0b P w D e sh)(hsz:P4 P e=some sh.length)(xs ys:Array Value): ∀(n k:Nat) (r:Bool),
  eqV (List.replicate n sh).flatten (xs.toList.drop (k*sh.length)) (ys.toList.drop (k*sh.length))=some r→(Op.eqItems D e sh.length xs ys (List.range' k n)).run P w= .ok r w
 |0,k,r,hv=>by obtain⟨h1,h2⟩:=A2z hv;simp only[List.replicate_zero,List.flatten_nil,List.length_nil]at h1 h2;rw[List.length_eq_zero_iff.1 h1,List.length_eq_zero_iff.1 h2]at hv;simp only[List.replicate_zero,List.flatten_nil,eqV,Option.some.injEq]at hv;subst hv;simp[Op.eqItems]
 |n+1,k,r,hv=>by
  rw[List.replicate_succ,List.flatten_cons]at hv;obtain⟨r1,r2,g1,g2,rfl⟩:=A5z sh _ _ _ r hv;rw[List.drop_drop,List.drop_drop]at g2;have ih:=C5h h hsz xs ys n (k+1) r2 (by rw[Nat.add_mul,Nat.one_mul];exact g2);obtain⟨a,b,p1,p2,p3⟩:=E3x h hsz xs ys _ g1;rw[List.range'_succ];simp only[Op.eqItems,Sem.run_bind,p1,p2,p3,Result.andThen_ok];cases r1 with
  |false=>simp
  |true=>simpa using ih
theorem C2i {D:Nat}{S:TypeId→Option (List Bool)}(hS: ∀t sh,S t=some sh→D0b P w D t sh)(xs ys:Array Value): ∀(fs:List Field) (off:Nat) (sh:List Bool) (r:Bool),
  A61 P S fs off=some sh→eqV sh (xs.toList.drop off) (ys.toList.drop off)=some r→(Op.eqFields D xs ys fs).run P w= .ok r w
 | [],off,sh,r,h,hv=>by simp only[A61,Option.some.injEq]at h;subst h;obtain⟨h1,h2⟩:=A2z hv;rw[List.length_eq_zero_iff.1 h1,List.length_eq_zero_iff.1 h2]at hv;simp only[eqV,Option.some.injEq]at hv;subst hv;simp[Op.eqFields]
 |f::fs,off,sh,r,h,hv=>by
  simp only[A61]at h;split at h
  case h_2=>cases h
  rename_i s1 hs1;split at h
  case isFalse=>cases h
  rename_i hc;obtain⟨hn,ho,hsz⟩:=hc;split at h
  case h_2=>cases h
  rename_i s2 hs2;simp only[Option.some.injEq]at h;subst h;obtain⟨r1,r2,g1,g2,rfl⟩:=A5z s1 s2 _ _ r hv;rw[List.drop_drop,List.drop_drop]at g2;have ih:=C2i hS xs ys fs (off+s1.length) s2 r2 hs2 g2
  have fin: ∀(a b:Value),(part f.type xs f.offset).run P w= .ok a w→(part f.type ys f.offset).run P w= .ok b w→(Op.equalIn D f.type a b).run P w= .ok r1 w→
    (Op.eqFields D xs ys (f::fs)).run P w= .ok (r1&&r2) w:=fun a b p1 p2 p3=>by
   simp only[Op.eqFields,hn,ne_eq,not_false_eq_true,if_true,Sem.run_bind,p1,p2,p3,Result.andThen_ok];cases r1 with
   |false=>simp
   |true=>simpa using ih
  rcases hS f.type s1 hs1 _ _ r1 g1 with⟨ha,v,u,hx,hy,he⟩ |⟨ha,he⟩
  ·have get: ∀(zs:Array Value) (v:Value),(zs.toList.drop off).take s1.length= [v]→zs[off]? =some v:=fun zs v hz=>by
    have h0:((zs.toList.drop off).take s1.length)[0]? =some v:=by rw[hz];rfl
    rw[List.getElem?_take]at h0;split at h0
    ·rw[List.getElem?_drop]at h0;simpa using h0
    ·cases h0
   refine fin v u ?_ ?_ he
   ·simp[part,T6 ha,ho,get xs v hx]
   ·simp[part,T6 ha,ho,get ys u hy]
  ·have ext: ∀(zs:Array Value),(part f.type zs f.offset).run P w= .ok (.agg ((zs.toList.drop off).take s1.length).toArray) w:=fun zs=>by
    have:zs.extract off (off+s1.length)=((zs.toList.drop off).take s1.length).toArray:=by rw[←Array.toList_inj];simp[Array.toList_extract,List.extract]
    simp[part,T6 ha,O8 hsz,ho,this]
   exact fin _ _ (ext xs) (ext ys) he
theorem B1l(k:Nat): ∀(d:Nat) (t:TypeId) (sh:List Bool),A3v P d t=some sh→D0b P w (d+k) t sh
 |0,t,sh,h=>by simp[A3v]at h
 |d+1,t,sh,h=>by
  intro xs ys r hv;have hD:d+1+k=(d+k)+1:=by omega
  simp only[A3v]at h;split at h
  ·rename_i k' ht;simp only[Option.some.injEq]at h;subst h;refine .inl ⟨by simp[L7,ht],?_⟩;obtain⟨h1,h2⟩:=A2z hv;obtain⟨x,rfl⟩:=List.length_eq_one_iff.1 h1;obtain⟨y,rfl⟩:=List.length_eq_one_iff.1 h2;cases x <;> cases y <;> simp only[eqV,reduceCtorEq]at hv;rename_i k1 a k2 b;split at hv
   ·rename_i e;subst e;simp only[Option.map_some,Option.some.injEq,Bool.and_true]at hv;subst hv;exact⟨_,_,rfl,rfl,by rw[hD];exact run_equalIn_int w _ t k1 k' a b ht⟩
   ·cases hv
  ·rename_i ht;simp only[Option.some.injEq]at h;subst h;refine .inl ⟨by simp[L7,ht],?_⟩;obtain⟨h1,h2⟩:=A2z hv;obtain⟨x,rfl⟩:=List.length_eq_one_iff.1 h1;obtain⟨y,rfl⟩:=List.length_eq_one_iff.1 h2;cases x <;> cases y <;> simp only[eqV,reduceCtorEq]at hv;rename_i a b;simp only[Option.map_some,Option.some.injEq,Bool.and_true]at hv;subst hv;exact⟨_,_,rfl,rfl,by rw[hD];exact run_equalIn_bool' w _ t a b ht⟩
  ·rename_i fs ht;split at h
   ·cases h
   ·rename_i hst;refine .inr ⟨by simp[L7,ht],?_⟩;have hf:P.fieldsOf t=fs:=by simp[Program.fieldsOf,ht]
    rw[hD,run_equalIn_struct w _ t _ _ (by rw[hf];exact ht) (by simpa using hst),hf];exact C2i (fun t sh h=>B1l k d t sh h) _ _ fs.toList 0 sh r h (by simpa using hv)
  ·rename_i n el ht;split at h
   case h_2=>cases h
   rename_i s1 hs1;split at h
   case isFalse=>cases h
   rename_i hc;simp only[Option.some.injEq]at h;subst h;refine .inr ⟨by simp[L7,ht],?_⟩;have hi: ∃i,P.info? el=some i:=by have:=hc.2;unfold P4 at this;rw[Option.map_eq_some_iff]at this;obtain⟨i,hi,_⟩:=this;exact⟨i,hi⟩
   obtain⟨i,hi⟩:=hi;rw[hD,run_equalIn_array w _ _ _ ht hi,hc.1,List.range_eq_range'];exact C5h (B1l k d el s1 hs1) hc.2 _ _ n 0 r (by simpa using hv)
  ·cases h
theorem D8e {op:BinOp}{t:TypeId}{neg:Bool}{ρ:Operand→Value}{e:AX→Option AV}{x y:Operand}{ax ay:AX}{p:Prop}{r:Res}{d:Nat}
  (ht:P.underlying t=some .bool)(hop:(op= .eql∧neg=false)∨(op= .neq∧neg=true))(hs:C8 G w ob m)(hx:cx x=some ax)(hy:cx y=some ay)(he:I8 G w ob ρ e)(hv:eval (.eqb neg ax ay) e m d=some (p,r)):
  C2 P G w ob m (do pure (.value (←(do eqGuard op t x y (ρ x) (ρ y);binOp op t (ρ x) (ρ y))))) r:=by
 simp only[eval]at hv;split at hv
 case h_2=>cases hv
 rename_i b1 b2 hax hay;simp only[Option.some.injEq,Prod.mk.injEq]at hv;obtain⟨_,rfl⟩:=hv;rw[(he x ax _ hx hax).sc_eq,(he y ay _ hy hay).sc_eq];have hE:(Op.equalIn 10000 t (.bool b1) (.bool b2)).run P w= .ok (b1==b2) w:=run_equalIn_bool' w 9999 t b1 b2 ht;rcases hop with⟨rfl,rfl⟩ |⟨rfl,rfl⟩
 ·refine C2.quiet hs (v:= .bool (b1==b2)) ?_ (.sc rfl);simp[eqGuard,binOp,Op.equal,Op.maxDepth,hE]
 ·refine C2.quiet hs (v:= .bool (!(b1==b2))) ?_ (.sc rfl);simp[eqGuard,binOp,Op.equal,Op.maxDepth,hE]
theorem E6v {op:BinOp}{t:TypeId}{sh:List Bool}{ρ:Operand→Value}{e:AX→Option AV}{x y:Operand}{ax ay:AX}{p:Prop}{r:Res}{d:Nat}
  (hsh:U9 P op t=some sh)(hs:C8 G w ob m)(hx:cx x=some ax)(hy:cx y=some ay)(he:I8 G w ob ρ e)(hv:eval (.eqa sh (C98 op) ax ay) e m d=some (p,r)):
  C2 P G w ob m (do pure (.value (←(do eqGuard op t x y (ρ x) (ρ y);binOp op t (ρ x) (ρ y))))) r:=by
 simp only[eval]at hv;split at hv
 case h_2=>cases hv
 rename_i cs ds hax hay;simp only[Option.map_eq_some_iff,Prod.mk.injEq]at hv;obtain⟨q,hq,_,rfl⟩:=hv;have hrx:=he x ax _ hx hax
 have hry:=he y ay _ hy hay;cases hvx:ρ x with
 |agg xs=>
  cases hvy:ρ y with
  |agg ys=>
   rw[hvx]at hrx;rw[hvy]at hry;cases hrx with
   |agg _ hn ho hr=>
    cases hry with
    |agg _ hn' ho' hr'=>
     have hE:=D2x sh cs ds xs.toList ys.toList q hq (by simpa using hn) (by simpa using hn') (fun j av hj=>by simpa[List.getD]using hr j av hj) (fun j av hj=>by simpa[List.getD]using hr' j av hj)
     have key:P.eqGuardType P.depth t=false∧A3v P 100 t=some sh∧(op= .eql∨op= .neq)∧L7 P t=some true:=by
      unfold U9 at hsh;split at hsh
      ·split at hsh
       ·rename_i fs ht;split at hsh
        ·cases hsh
        ·rename_i hg;exact⟨by simpa using hg,hsh, .inl rfl,by simp[L7,ht]⟩
       ·rename_i n el ht;split at hsh
        ·cases hsh
        ·rename_i hg;exact⟨by simpa using hg,hsh, .inl rfl,by simp[L7,ht]⟩
       ·cases hsh
      ·split at hsh
       ·rename_i fs ht;split at hsh
        ·cases hsh
        ·rename_i hg;exact⟨by simpa using hg,hsh, .inr rfl,by simp[L7,ht]⟩
       ·rename_i n el ht;split at hsh
        ·cases hsh
        ·rename_i hg;exact⟨by simpa using hg,hsh, .inr rfl,by simp[L7,ht]⟩
       ·cases hsh
      ·cases hsh
     obtain⟨hg,hsp,hop,hagg⟩:=key;have heq:(Op.equalIn 10000 t (.agg xs) (.agg ys)).run P w= .ok q w:=by
      rcases B1l (P:=P) (w:=w) 9900 100 t sh hsp xs.toList ys.toList q hE with⟨ha,_⟩ |⟨_,h⟩
      ·rw[hagg]at ha;cases ha
      ·simpa using h
     rcases hop with rfl |rfl
     ·refine C2.quiet hs (v:= .bool q) ?_ (.sc rfl);simp[run_eqGuard_agg w .eql t x y xs ys hg,run_eql_struct,heq,C98]
     ·refine C2.quiet hs (v:= .bool (!q)) ?_ (.sc rfl);simp[run_eqGuard_agg w .neq t x y xs ys hg,run_neq_struct,heq,C98]
  |_=>rw[hvy]at hry;cases hry
 |_=>rw[hvx]at hrx;cases hrx
end
def C42(P:Program)(w:World)(em:Bool)(D:Nat)(t:TypeId)(sh:List Bool):Prop:=
 ∀(xs:List Value) (r:Bool),eqV sh xs xs=some r→
  (L7 P t=some false∧ ∃v,xs= [v]∧(Instr.checkKey em D t v).run P w= .ok () w)∨
  (L7 P t=some true∧(Instr.checkKey em D t (.agg xs.toArray)).run P w= .ok () w)
section
variable {P:Program} {G:Nat→Prop} {w:World} {ob:Place} {m:Nat→Option A8}
theorem D1m {em:Bool}{D:Nat}{t:TypeId}{s1:List Bool}{r1:Bool}(h:C42 P w em D t s1)(hsz:P4 P t=some s1.length)(xs:Array Value)(off:Nat)
  (g1:eqV s1 ((xs.toList.drop off).take s1.length) ((xs.toList.drop off).take s1.length)=some r1):
  ∃a,(part t xs off).run P w= .ok a w∧(Instr.checkKey em D t a).run P w= .ok () w:=by
 rcases h _ r1 g1 with⟨ha,v,hx,he⟩ |⟨ha,he⟩
 ·have get:xs[off]? =some v:=by
   have h0:((xs.toList.drop off).take s1.length)[0]? =some v:=by rw[hx];rfl
   rw[List.getElem?_take]at h0;split at h0
   ·rw[List.getElem?_drop]at h0;simpa using h0
   ·cases h0
  exact⟨v,by simp[part,T6 ha,get],he⟩
 ·have:xs.extract off (off+s1.length)=((xs.toList.drop off).take s1.length).toArray:=by
   rw[←Array.toList_inj];simp[Array.toList_extract,List.extract]
  exact⟨_,by simp[part,T6 ha,O8 hsz,this],he⟩
theorem C0t {em:Bool}{D:Nat}{S:TypeId→Option (List Bool)}(hS: ∀t sh,S t=some sh→C42 P w em D t sh)(xs:Array Value): ∀(fs:List Field) (off:Nat) (sh:List Bool) (r:Bool),
  A61 P S fs off=some sh→eqV sh (xs.toList.drop off) (xs.toList.drop off)=some r→ ∀f∈fs,f.name≠ "_" ∧ ∃a,(part f.type xs f.offset).run P w= .ok a w∧(Instr.checkKey em D f.type a).run P w= .ok () w
 | [],_,_,_,_,_,f,hf=>by simp at hf
 |g::fs,off,sh,r,h,hv,f,hf=>by
  simp only[A61]at h;split at h
  case h_2=>cases h
  rename_i s1 hs1;split at h
  case isFalse=>cases h
  rename_i hc;obtain⟨hn,ho,hsz⟩:=hc;split at h
  case h_2=>cases h
  rename_i s2 hs2;simp only[Option.some.injEq]at h;subst h;obtain⟨r1,r2,g1,g2,rfl⟩:=A5z s1 s2 _ _ r hv;rw[List.drop_drop]at g2;rcases List.mem_cons.1 hf with rfl |hf
  ·rw[ho];exact⟨hn,D1m (hS _ _ hs1) hsz xs off g1⟩
  ·exact C0t hS xs fs (off+s1.length) s2 r2 hs2 g2 f hf
theorem C2g {em:Bool}{D:Nat}{e:TypeId}{sh:List Bool}(h:C42 P w em D e sh)(hsz:P4 P e=some sh.length)(xs:Array Value): ∀(n k:Nat) (r:Bool),
  eqV (List.replicate n sh).flatten (xs.toList.drop (k*sh.length)) (xs.toList.drop (k*sh.length))=some r→ ∀i∈List.range' k n,∃a,(part e xs (i*sh.length)).run P w= .ok a w∧(Instr.checkKey em D e a).run P w= .ok () w
 |0,k,r,hv,i,hi=>by simp at hi
 |n+1,k,r,hv,i,hi=>by
  rw[List.replicate_succ,List.flatten_cons]at hv;obtain⟨r1,r2,g1,g2,rfl⟩:=A5z sh _ _ _ r hv;rw[List.drop_drop]at g2;rw[List.range'_succ]at hi;rcases List.mem_cons.1 hi with rfl |hi
  ·exact D1m h hsz xs _ g1
  ·exact C2g h hsz xs n (k+1) r2 (by rw[Nat.add_mul,Nat.one_mul];exact g2) i hi
theorem B34(em:Bool)(k:Nat): ∀(d:Nat) (t:TypeId) (sh:List Bool),A3v P d t=some sh→C42 P w em (d+k) t sh
 |0,t,sh,h=>by simp[A3v]at h
 |d+1,t,sh,h=>by
  intro xs r hv;have hD:d+1+k=(d+k)+1:=by omega
  simp only[A3v]at h;split at h
  ·rename_i k' ht;simp only[Option.some.injEq]at h;subst h;refine .inl ⟨by simp[L7,ht],?_⟩;obtain⟨h1,_⟩:=A2z hv;obtain⟨x,rfl⟩:=List.length_eq_one_iff.1 h1;exact⟨x,rfl,by rw[hD];simp[Instr.checkKey,run_underlying ht]⟩
  ·rename_i ht;simp only[Option.some.injEq]at h;subst h;refine .inl ⟨by simp[L7,ht],?_⟩;obtain⟨h1,_⟩:=A2z hv;obtain⟨x,rfl⟩:=List.length_eq_one_iff.1 h1;exact⟨x,rfl,by rw[hD];simp[Instr.checkKey,run_underlying ht]⟩
  ·rename_i fs ht;split at h
   ·cases h
   ·refine .inr ⟨by simp[L7,ht],?_⟩;have hf:=C0t (em:=em) (D:=d+k) (fun t sh h=>B34 em k d t sh h) xs.toArray fs.toList 0 sh r h (by simpa using hv);rw[hD,Instr.checkKey];simp only[Sem.run_bind,run_underlying ht,Result.andThen_ok];rw[←Array.forIn_toList];clear h;generalize fs.toList=L at hf;induction L with
    |nil=>simp
    |cons f L ih=>obtain⟨hn,a,p1,p2⟩:=hf f (by simp);simp only[List.forIn_cons,Sem.run_bind,hn,ne_eq,not_false_eq_true,if_true,Result.andThen_ok,p1,p2,Sem.run_pure];exact ih (fun y hy=>hf y (by simp[hy]))
  ·rename_i n el ht;split at h
   case h_2=>cases h
   rename_i s1 hs1;split at h
   case isFalse=>cases h
   rename_i hc;simp only[Option.some.injEq]at h;subst h;refine .inr ⟨by simp[L7,ht],?_⟩;have hf:=C2g (B34 em k d el s1 hs1) hc.2 xs.toArray n 0 r (by simpa using hv);rw[hD,Instr.checkKey];simp only[Sem.run_bind,run_underlying ht,Result.andThen_ok];simp only[Std.Legacy.Range.forIn_eq_forIn_range',Std.Legacy.Range.size,Nat.sub_zero,Nat.add_one_sub_one,Nat.div_one];clear hv;generalize List.range' 0 n=L at hf;induction L with
   |nil=>simp
   |cons j L ih=>obtain⟨a,p1,p2⟩:=hf j (by simp);simp only[List.forIn_cons,Sem.run_bind,O8 hc.2,Result.andThen_ok,p1,p2,Sem.run_pure];exact ih (fun y hy=>hf y (by simp[hy]))
  ·cases h
theorem C4b: ∀(as bs:List Int),as.length=bs.length→eqV (List.replicate as.length true) (as.map (Value.int .i64)) (bs.map (Value.int .i64))=some (as==bs)
 | [],[],_=>rfl
 |a::as,b::bs,h=>by simp only[List.length_cons,List.replicate_succ,List.map_cons,eqV,if_true,C4b as bs (by simpa using h),Option.map_some];rfl
 | [],_::_,h=>by simp at h
 |_::_,[],h=>by simp at h
theorem B2b {t:TypeId}{sh:List Bool}(h:U9 P .eql t=some sh):A3v P 100 t=some sh∧ ∃d,P.underlying t=some d∧L7 P t=some true∧ ∀u v,Instr.sameNow d (.agg u) v=none:=by
 simp only[U9]at h;split at h
 ·rename_i fs ht;split at h
  ·cases h
  ·exact⟨h,_,ht,by simp[L7,ht],fun u v=>by simp[Instr.sameNow]⟩
 ·rename_i n el ht;split at h
  ·cases h
  ·exact⟨h,_,ht,by simp[L7,ht],fun u v=>by simp[Instr.sameNow]⟩
 ·cases h
theorem C8c: ∀(cs:List AV) (vs:List Value) (zs:List Int),B1b cs=some zs→vs.length=cs.length→(∀(j:Nat) (av:AV),cs[j]? =some av→Rel G w ob av (vs.getD j undef))→vs=zs.map (Value.int .i64)
 | [],[],zs,h,_,_=>by simp only[B1b,Option.some.injEq]at h;subst h;rfl
 | [],_::_,_,_,h,_=>by simp at h
 |_::_,[],_,_,h,_=>by simp at h
 |c::cs,v::vs,zs,h,hl,hr=>by
  cases c with
  |sc u=>
   cases u with
   |int k z=>cases k <;> simp only[B1b,reduceCtorEq,Option.map_eq_some_iff]at h;obtain⟨zs',hz,rfl⟩:=h;have h0:v= .int .i64 z:=(hr 0 _ rfl).sc_eq;rw[h0,C8c cs vs zs' hz (by simpa using hl) (fun j av hj=>hr (j+1) av (by simpa using hj))];rfl
   |_=>simp[B1b]at h
  |_=>simp[B1b]at h
theorem D5r {cs:List AV}{zs:List Int}{v:Value}(hr:Rel G w ob (.agg cs) v)(h:B1b cs=some zs):v=A0y zs:=by
 cases hr with
 |agg vs hn ho hr=>have:=C8c cs vs.toList zs h (by simpa using hn) (fun j av hj=>by simpa using hr j av hj);rw[A0y,←this]
theorem B7m {kt:TypeId}{sh:List Bool}{zs:List Int}(em:Bool)(hk:U9 P .eql kt=some sh)(hall:sh=List.replicate zs.length true):(Instr.checkKey em 10000 kt (A0y zs)).run P w= .ok () w:=by
 obtain⟨h1,d,_,h2,_⟩:=B2b hk;rcases B34 (w:=w) em 9900 100 kt sh h1 (zs.map (Value.int .i64)) (zs==zs) (by rw[hall];exact C4b zs zs rfl)with⟨h,_⟩ |⟨_,h⟩
 ·rw[h2]at h;cases h
 ·exact h
theorem D50 {kt:TypeId}{sh:List Bool}{zs ys:List Int}(hk:U9 P .eql kt=some sh)(hall:sh=List.replicate zs.length true)(hl:zs.length=ys.length):(Op.equal kt (A0y zs) (A0y ys)).run P w= .ok (zs==ys) w:=by
 obtain⟨h1,d,_,h2,_⟩:=B2b hk;rcases B1l (P:=P) (w:=w) 9900 100 kt sh h1 (zs.map (Value.int .i64)) (ys.map (Value.int .i64)) (zs==ys) (by rw[hall];exact C4b zs ys hl)with⟨h,_⟩ |⟨_,h⟩
 ·rw[h2]at h;cases h
 ·exact h
theorem C2o {kt:TypeId}{sh:List Bool}{zs:List Int}(hk:U9 P .eql kt=some sh)(hall:sh=List.replicate zs.length true): ∀(es:List (List Int×AV)) (ents:List MapEntry) (q:Nat),ents.length=es.length→
  (∀(j:Nat) (z':List Int) (av:AV),es[j]? =some (z',av)→z'.length=zs.length∧ ∃(x:MapEntry),ents[j]? =some x∧x.key=A0y z')→
  (Instr.findAsking kt (A0y zs) ents q).run P w= .ok ((es.findIdx? (fun x=>zs==x.1)).bind fun j=>(ents[j]?).map fun x=>(q+j,x.val)) w
 | [],[],q,_,_=>by simp[Instr.findAsking]
 | [],_::_,q,h,_=>by simp at h
 |_::_,[],q,h,_=>by simp at h
 |(z',av)::es,x::ents,q,h,hkk=>by
  obtain⟨hl,x',h1,h2⟩:=hkk 0 z' av (by simp);simp only[List.getElem?_cons_zero,Option.some.injEq]at h1;subst h1;have ih:=C2o hk hall es ents (q+1) (by simpa using h) (fun j z' av hj=>by obtain⟨hl,y,h3,h4⟩:=hkk (j+1) z' av (by simpa using hj);exact⟨hl,y,by simpa using h3,h4⟩)
  simp only[Instr.findAsking,h2,Sem.run_bind,D50 hk hall hl.symm,Result.andThen_ok,List.findIdx?_cons];by_cases hz:(zs==z')=true
  ·simp[hz]
  ·have hz':(zs==z')=false:=by simpa using hz
   simp only[hz',ih,Bool.false_eq_true,if_false];cases es.findIdx? (fun x=>zs==x.1)with
   |none=>rfl
   |some j=>simp[Nat.add_assoc,Nat.add_comm 1 j]
theorem D0w {kt:TypeId}{sh:List Bool}{zs:List Int}(hk:U9 P .eql kt=some sh)(hall:sh=List.replicate zs.length true)(es:List (List Int×AV))(ents:List MapEntry)(hlen:ents.length=es.length)
  (hh: ∀(j:Nat) (z':List Int) (av:AV),es[j]? =some (z',av)→z'.length=zs.length∧ ∃(x:MapEntry),ents[j]? =some x∧x.key=A0y z'):
  (Instr.findKey kt (A0y zs) ents).run P w= .ok ((es.findIdx? (fun x=>zs==x.1)).bind fun j=>(ents[j]?).map fun x=>(j,x.val)) w:=by
 obtain⟨h1,d,hd,h2,h3⟩:=B2b hk;have ha:=C2o (w:=w) hk hall es ents 0 hlen hh;simp only[Nat.zero_add]at ha;cases ents with
 |nil=>have:es= []:=List.length_eq_zero_iff.1 hlen.symm;subst this;simp[Instr.findKey,run_underlying hd,Instr.findNow]
 |cons x ents=>
  have:Instr.findNow d (A0y zs) (x::ents) 0=none:=by simp only[Instr.findNow,A0y,h3]
  simp only[Instr.findKey,Sem.run_bind,run_underlying hd,Result.andThen_ok,this,ha]
theorem C8z: ∀(es:List (List Int×AV)) (z:List Int),B27 es z=(es.findIdx? (fun x=>z==x.1)).bind fun j=>(es[j]?).map (·.2)
 | [],z=>rfl
 |(z',av)::es,z=>by
  simp only[B27,List.findIdx?_cons,C8z es z];split
  ·simp
  ·cases es.findIdx? (fun x=>z==x.1) <;> simp
theorem B9e: ∀(es:List (List Int×AV)) (z:List Int) (v:AV),A9l es z v=match es.findIdx? (fun x=>z==x.1)with
  |some j=>es.modify j (fun x=>(x.1,v))
  |none=>es++ [(z,v)]
 | [],z,v=>rfl
 |(z',u)::es,z,v=>by
  simp only[A9l,List.findIdx?_cons,B9e es z v];split
  ·simp
  ·cases es.findIdx? (fun x=>z==x.1) <;> simp
theorem D85 {t:TypeId}{n:Nat}{e:AX→Option AV}{p:Prop}{r:Res}{d:Nat}
  (hs:C8 G w ob m)(hv:eval (.mkmapS n) e m d=some (p,r)):C2 P G w ob m (do pure (.value (←Instr.makeMap t none))) r:=by
 simp only[eval]at hv;cases hm:m (nid d)with
 |some o=>simp[hm]at hv
 |none=>
  simp only[hm,Option.some.injEq,Prod.mk.injEq]at hv;obtain⟨_,rfl⟩:=hv;refine C2.new (w0:=w) (x:= .map #[] 0) (i:=⟨some w.heap.size,0,0,0, .map⟩) hs hm rfl rfl rfl rfl (v:= .map (some w.heap.size)) ?_ (fun b hb=>by simpa using hb.symm) ?_ ?_
  ·simp[Instr.makeMap]
  ·exact⟨rfl,w.heap.size,#[],0,rfl,heap_alloc_new _ _,rfl,fun j z av h=>by simp at h⟩
  ·exact .mp _ ⟨some w.heap.size,0,0,0, .map⟩ (by simp) rfl rfl
theorem D70 {t kt el:TypeId}{n:Nat}{zero:Value}{ok:Bool}{ρ:Operand→Value}{e:AX→Option AV}{x y:Operand}{ax ay:AX}{p:Prop}{r:Res}{d:Nat}
  (ht:P.underlying t=some (.map kt el))(hk:U9 P .eql kt=some (List.replicate n true))(hz:(P.info? el).bind (·.zero)=some zero)
  (hone:zero.cells.all Value.oneCell'=true)(hnt: ∀vs,zero≠ .tuple vs)
  (hs:C8 G w ob m)(hx:cx x=some ax)(hy:cx y=some ay)(he:I8 G w ob ρ e)(hv:eval (.lookupS n zero ok ax ay) e m d=some (p,r)):
  C2 P G w ob m (do pure (.value (←Instr.lookup t (ρ x) (ρ y) ok))) r:=by
 simp only[eval]at hv;split at hv
 case h_2=>cases hv
 rename_i id cs hax hay;have hr:=he x ax _ hx hax
 have hry:=he y ay _ hy hay;split at hv
 case h_2=>cases hv
 rename_i n' es zs hm hcs;rw[D5r hry hcs];split at hv
 case isFalse=>cases hv
 rename_i hnn;obtain⟨rfl,hzl⟩:=hnn;simp only[Option.some.injEq,Prod.mk.injEq]at hv;obtain⟨_,rfl⟩:=hv;generalize ρ x=v at hr;cases hr with
 |mp b i h hb hmap=>
  obtain⟨_,b',ents,clock,h1,h2,h3,h4⟩:=hs.own id _ i hm h;rw[hb]at h1;injection h1 with h1;subst h1;have hall:List.replicate n true=List.replicate zs.length true:=by rw[hzl]
  have hfn:=D0w (w:=w) hk hall es ents.toList (by simpa using h3) (fun j z' av hj=>by obtain⟨⟨_,hl⟩,x,h5,h6,_⟩:=h4 j z' av hj;exact⟨by rw[hl,hzl],x,by simpa using h5,h6⟩)
  have hck:(Instr.checkKey ents.isEmpty 10000 kt (A0y zs)).run P w= .ok () w:=B7m _ hk hall
  -- what the lookup finds
  have found: ∃u fnd,(Instr.lookup t (.map (some b)) (A0y zs) ok).run P w= .ok (if ok then .tuple #[u, .bool fnd]else u) w∧fnd=(B27 es zs).isSome∧
    Rel G w ob ((B27 es zs).getD (B9m zero)) u:=by
   rw[C8z];have hget:(getObj b).run P w= .ok (.map ents clock) w:=by simp[getObj,Sem.run,h2]
   cases hfi:es.findIdx? (fun x=>zs==x.1)with
   |none=>rw[hfi]at hfn;refine⟨zero,false,?_,rfl,C4k hone hnt⟩;simp only[Option.bind_none]at hfn;cases ok <;> simp only[Instr.lookup,Sem.run_bind,run_underlying ht,Result.andThen_ok,hget,Sem.run_pure,hck,hfn,A6w hz,Bool.false_eq_true,if_false,if_true]
   |some j=>
    have hj:j<es.length:=by have:=List.findIdx?_eq_some_iff_findIdx_eq.1 hfi;exact this.1
    obtain⟨hfl,x,h5,h6,h7⟩:=h4 j es[j].1 es[j].2 (by simp[List.getElem?_eq_getElem hj]);have h5':ents.toList[j]? =some x:=by simpa using h5
    rw[hfi]at hfn;simp only[Option.bind_some,h5',Option.map_some]at hfn;refine⟨x.val,true,?_,by simp[List.getElem?_eq_getElem hj],by simpa[List.getElem?_eq_getElem hj]using h7⟩;cases ok <;> simp only[Instr.lookup,Sem.run_bind,run_underlying ht,Result.andThen_ok,hget,Sem.run_pure,hck,hfn,Bool.false_eq_true,if_false,if_true]
  obtain⟨u,fnd,hrun,rfl,hrel⟩:=found;cases ok with
  |false=>exact C2.quiet hs (v:=u) (by simp[hrun]) (by simpa using hrel)
  |true=>
   refine C2.quiet hs (v:= .tuple #[u, .bool (B27 es zs).isSome]) (by simp[hrun]) ?_;simp only[if_true];refine .tup _ rfl fun j av hj=> ?_;cases j with
   |zero=>simp only[List.getElem?_cons_zero,Option.some.injEq]at hj;subst hj;exact hrel
   |succ j=>cases j with
    |zero=>simp only[List.getElem?_cons_succ,List.getElem?_cons_zero,Option.some.injEq]at hj;subst hj;exact .sc rfl
    |succ j=>simp at hj
theorem C8w(n:Nat): ∀(zs:List Int),((zs.map (Value.int .i64)).zip (zs.map (Value.int .i64))).all (fun(x,y)=>Instr.sameBits n x y)=true
 | []=>rfl
 |z::zs=>by have:=C8w n zs;simp only[List.map_cons,List.zip_cons_cons,List.all_cons,this,Bool.and_true];cases n <;> simp[Instr.sameBits]
theorem D77(n:Nat)(zs:List Int):Instr.sameBits (n+1) (A0y zs) (A0y zs)=true:=by have:=C8w n zs;simp only[A0y,Instr.sameBits,beq_self_eq_true,Bool.true_and];exact this
theorem E08 {t kt el:TypeId}{n:Nat}{ρ:Operand→Value}{e:AX→Option AV}{x y u:Operand}{ax ay au:AX}{p:Prop}{r:Res}{d:Nat}
  (ht:P.underlying t=some (.map kt el))(hk:U9 P .eql kt=some (List.replicate n true))
  (hs:C8 G w ob m)(hx:cx x=some ax)(hy:cx y=some ay)(hu:cx u=some au)(he:I8 G w ob ρ e)(hv:eval (.msetS n ax ay au) e m d=some (p,r)):
  C2 P G w ob m (do Instr.mapUpdate t (ρ x) (ρ y) (ρ u);pure .skip) r:=by
 simp only[eval]at hv;split at hv
 case h_2=>cases hv
 rename_i id cs av hax hay hau;have hr:=he x ax _ hx hax
 have hru:=he u au _ hu hau
 have hry:=he y ay _ hy hay;split at hv
 case h_2=>cases hv
 rename_i n' es z hm hcs;rw[D5r hry hcs];split at hv
 case isFalse=>cases hv
 rename_i hkk;obtain⟨rfl,hzl,hflat⟩:=hkk;simp only[Option.some.injEq,Prod.mk.injEq]at hv;obtain⟨_,rfl⟩:=hv;generalize ρ x=v at hr;generalize ρ u=vu at hru;cases hr with
 |mp b i h hb hmap=>
  obtain⟨hmp,b',ents,clock,h1,h2,h3,h4⟩:=hs.own id _ i hm h;rw[hb]at h1;injection h1 with h1;subst h1;have hall:List.replicate n true=List.replicate z.length true:=by rw[hzl]
  have hfn:=D0w (w:=w) hk hall es ents.toList (by simpa using h3) (fun j z' av hj=>by obtain⟨⟨_,hl⟩,x,h5,h6,_⟩:=h4 j z' av hj;exact⟨by rw[hl,hzl],x,by simpa using h5,h6⟩)
  have hck:(Instr.checkKey false 10000 kt (A0y z)).run P w= .ok () w:=B7m _ hk hall
  have hget:(getObj b).run P w= .ok (.map ents clock) w:=by simp[getObj,Sem.run,h2]
  have hblt:b<w.heap.size:=by
   rcases Nat.lt_or_ge b w.heap.size with h |h
   ·exact h
   ·rw[Array.getElem?_eq_none h]at h2;cases h2
  have hsetO: ∀o,(setObj b o).run P w= .ok () {w with heap:=w.heap.setIfInBounds b o}:=fun o=>by simp[setObj,Sem.run,h2]
  have hnG: ¬G b:=hs.sep id _ i b hm rfl h (.inl hb)
  -- the common end
  have fin: ∀(ents':Array MapEntry) (clock':Nat),(Instr.mapUpdate t (.map (some b)) (A0y z) vu).run P w= .ok () {w with heap:=w.heap.setIfInBounds b (.map ents' clock')}→
    ents'.size=(A9l es z av).length→(∀(j:Nat) (z':List Int) (a:AV),(A9l es z av)[j]? =some (z',a)→(a.flat=true∧z'.length=n)∧ ∃(x:MapEntry),ents'[j]? =some x∧x.key=A0y z'∧Rel G w ob a x.val)→
    C2 P G w ob m (do Instr.mapUpdate t (.map (some b)) (A0y z) vu;pure .skip) ⟨none,[(id, .mapS n (A9l es z av))]⟩:=by
   intro ents' clock' hrun hlen hents;have hhold: ∀q,q≠b→({w with heap:=w.heap.setIfInBounds b (.map ents' clock')}:World).heap[q]? =w.heap[q]? :=fun q hq=>Array.getElem?_setIfInBounds_ne (Ne.symm hq)
   have hGw: ∀q,G q→({w with heap:=w.heap.setIfInBounds b (.map ents' clock')}:World).heap[q]? =w.heap[q]? :=fun q hG=>hhold q (fun e=>hnG (e▸hG))
   have hup:upd ob id (some i)=ob:=A0u h;obtain⟨s1,s2,s3⟩:=hs.update (w':= {w with heap:=w.heap.setIfInBounds b (.map ents' clock')}) id (.mapS n (A9l es z av)) i (by simp)
    (fun q _ hne=>hhold q (fun e=>hne i h (by rw[hb,e]))) (fun j hj=>by rw[h]at hj;injection hj with hj;exact .inl hj)
    (fun q hq=> .inl ⟨i,h,hq⟩) (fun j hj q hq hG=>hGw q hG)
    ⟨hmp,b,ents',clock',hb,by simp[hblt],hlen,fun j z' a hj=>by obtain⟨c1,x,c2,c3,c4⟩:=hents j z' a hj;exact⟨c1,x,c2,c3,c4.ext (fun _ h=>h) hGw (by rw[hup];exact C3.refl ob)⟩⟩
    (fun _ q hq=>by rw[hb]at hq;injection hq with hq;exact hq▸hnG) (fun o0 h0=>by rw[hm]at h0;cases h0;rfl)
   refine⟨G,{w with heap:=w.heap.setIfInBounds b (.map ents' clock')},_,undef, .inr ⟨by simp[hrun],rfl⟩,s1,(fun _ hh=>by cases hh),s2,Fr.of_heap (by simp) (fun q hq hc=> ?_) s3 rfl rfl rfl⟩;refine hhold q fun e=> ?_;subst e;rcases hc with hc |hc
   ·exact hnG hc
   ·exact hc ⟨id,i,h, .inl hb⟩
  cases hfi:es.findIdx? (fun x=>z==x.1)with
  |none=>
   rw[hfi]at hfn;simp only[Option.bind_none]at hfn;have hmp':A9l es z av=es++ [(z,av)]:=by rw[B9e,hfi]
   refine fin (ents.push {key:=A0y z,val:=vu,born:=clock}) (clock+1) ?_ (by simp[hmp',h3]) (fun j z' a hj=> ?_)
   ·simp[Instr.mapUpdate,run_underlying ht,hget,hck,hfn,hsetO]
   ·rw[hmp']at hj;by_cases hjl:j<es.length
    ·rw[List.getElem?_append_left hjl]at hj;obtain⟨c1,x,c2,c3,c4⟩:=h4 j z' a hj;exact⟨c1,x,by rw[Array.getElem?_push,if_neg (by omega)];exact c2,c3,c4⟩
    ·rw[List.getElem?_append_right (by omega)]at hj;have hje:j=es.length:=by
      rcases Nat.lt_or_ge (j-es.length) 1 with h |h
      ·omega
      ·rw[List.getElem?_eq_none (by simpa using h)]at hj;cases hj
     subst hje;simp only[Nat.sub_self,List.getElem?_cons_zero,Option.some.injEq,Prod.mk.injEq]at hj;obtain⟨rfl,rfl⟩:=hj;exact⟨⟨hflat,hzl⟩,_,by rw[Array.getElem?_push,if_pos h3.symm],rfl,hru⟩
  |some j=>
   have hj:=List.findIdx?_eq_some_iff_findIdx_eq.1 hfi
   have hjl:j<es.length:=hj.1
   have hzj:(z==es[j].1)=true:=by
    have h1:=hj.2
    have h2:List.findIdx (fun x:List Int×AV=>z==x.1) es<es.length:=by rw[h1];exact hjl
    have:=List.findIdx_getElem (w:=h2);simpa only[h1]using this
   obtain⟨hfl,x,h5,h6,h7⟩:=h4 j es[j].1 es[j].2 (by simp[List.getElem?_eq_getElem hjl]);have h5':ents.toList[j]? =some x:=by simpa using h5
   rw[hfi]at hfn;simp only[Option.bind_some,h5',Option.map_some]at hfn;have hkey:x.key=A0y z:=by rw[h6];simp only[beq_iff_eq]at hzj;rw[hzj]
   have hstay:(Instr.keyThatStays (((ents[j]?).map (·.key)).getD (A0y z)) (A0y z)).run P w= .ok (A0y z) w:=by have hsb:=D77 9999 z;simp[Instr.keyThatStays,h5,hkey,hsb]
   have hmp':A9l es z av=es.modify j (fun x=>(x.1,av)):=by rw[B9e,hfi]
   refine fin (ents.modify j fun e=> {e with key:=A0y z,val:=vu}) clock ?_ (by simp[hmp',h3]) (fun q z' a hq=> ?_)
   ·simp[Instr.mapUpdate,run_underlying ht,hget,hck,hfn,hsetO,hstay]
   ·rw[hmp']at hq;rw[List.getElem?_modify]at hq;rw[Array.getElem?_modify];by_cases hqj:j=q
    ·subst hqj;simp only[if_true,List.getElem?_eq_getElem hjl,Option.map_some,Option.some.injEq,Prod.mk.injEq]at hq;obtain⟨rfl,rfl⟩:=hq;refine⟨⟨hflat,hfl.2⟩,_,by rw[if_pos rfl,h5];rfl,?_,hru⟩;simp only[beq_iff_eq]at hzj;simp[hzj]
    ·rw[if_neg hqj];simp only[hqj,if_false,Option.map_id_fun',id_eq,Option.map_eq_map,Option.map_id']at hq;exact h4 q z' a hq
end
theorem C36: ∀ {sh:List Bool},sh.all id=true→sh=List.replicate sh.length true
 | [],_=>rfl
 |b::sh,h=>by simp only[List.all_cons,id_eq,Bool.and_eq_true]at h;rw[List.length_cons,List.replicate_succ,←C36 h.2,h.1]
end Go.Abs
end
