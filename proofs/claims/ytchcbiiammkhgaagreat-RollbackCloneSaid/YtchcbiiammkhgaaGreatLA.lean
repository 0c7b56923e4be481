/- A part of the proof: what a function does, over abstract values and objects, and its ties to the model. -/
import Derived.Calls
import Derived.Laws.Sem
import Derived.Laws.World
import Derived.Laws.Cells
import Derived.Laws.Rows
import Derived.Laws.Tables
import Derived.Laws.Append
import Derived.Laws.AppendOwn
import Derived.Laws.MakeOwn
import Derived.Laws.CopyRow
import Derived.Laws.StructEq
import Derived.Laws.Entries
import Derived.ChangeKeysEq
set_option linter.unusedSimpArgs false
set_option linter.unusedVariables false
set_option linter.unnecessarySimpa false
set_option maxRecDepth 100000
set_option maxHeartbeats 2000000
abbrev za:=@Option.some.injEq
abbrev zb:=@if_neg
abbrev zc:=@if_pos
abbrev zd:=@List.length_append
abbrev ze:=@Nat.le_refl
abbrev zf:=@Bool.false_eq_true
abbrev zg:=@List.getElem?_eq_getElem
abbrev zh:=@Option.map_eq_some_iff
abbrev zi:=@Bool.and_eq_true
abbrev zj:=@List.mem_append
abbrev zo:=@List.mem_cons
abbrev zm:=@Nat.zero_le
abbrev zk:=@decide_eq_true_eq
abbrev zn:=@List.take_length
abbrev zr:=@List.not_mem_nil
abbrev zp:=@decide_eq_false
abbrev zu:=@List.mem_singleton
abbrev zq:=@Prod.mk.injEq
abbrev zt:=@List.length_take
abbrev zw:=@Nat.mul_le_mul_right
abbrev zC:=@decide_eq_false_iff_not
abbrev zx:=@List.append_assoc
abbrev zy:=@Bool.or_eq_true
abbrev zA:=@List.getElem?_of_mem
abbrev zD:=@Bool.not_false
abbrev zF:=@Nat.lt_succ_iff_lt_or_eq
abbrev zG:=@Bool.true_eq_false
abbrev zH:=@Bool.true_and
abbrev zI:=@Bool.false_and
abbrev zJ:=@if_false
abbrev zK:=@not_false_eq_true
abbrev zL:=@if_true
abbrev zM:=@List.length_set
abbrev zN:=@not_true_eq_false
abbrev zO:=@Bool.and_true
abbrev zP:=@decide_false
abbrev zU:=@or_false
abbrev zT:=@decide_eq_true
abbrev zQ:=@Bool.not_eq_true'
abbrev zR:=@Bool.not_true
abbrev zS:=@Bool.false_or
abbrev zV:=@Bool.true_or
abbrev zX:=@Bool.and_false
abbrev zY:=@List.getElem?_append_right
abbrev zZ:=@Bool.or_false
abbrev qp:=@List.mem_cons_self
abbrev z6:=@decide_true
abbrev z7:=@List.length_map
abbrev z8:=@Bool.or_true
abbrev qa:=@Nat.add_mul
abbrev qb:=@Array.getElem?_eq_some_iff
abbrev qc:=@beq_iff_eq
abbrev qd:=@Nat.le_trans
abbrev qe:=@Decidable.not_not
abbrev qf:=@List.mem_cons_of_mem
abbrev qg:=@bne_eq_false_iff_eq
abbrev qh:=@Array.getElem?_eq_getElem
abbrev qi:=@List.getElem?_eq_none
abbrev qj:=@eq_self
abbrev qk:=@Nat.zero_add
abbrev ql:=@List.getElem?_append_left
abbrev qm:=@List.all_eq_true
abbrev qn:=@List.length_drop
abbrev qo:=@true_and
abbrev qu:=@List.length_pos_iff
abbrev qq:=@Nat.lt_or_ge
abbrev qr:=@Option.isSome_iff_exists
abbrev qs:=@Bool.not_eq_true
abbrev qt:=@beq_eq_false_iff_ne
abbrev qv:=@List.mem_of_getElem?
abbrev qw:=@List.map_cons
abbrev qx:=@List.length_eq_zero_iff
abbrev qy:=@not_or
abbrev qz:=@Bool.eq_iff_iff
abbrev qA:=@List.getElem?_map
abbrev qB:=@bne_iff_ne
abbrev qC:=@List.length_filterMap_le
abbrev qD:=@List.mem_of_find?_eq_some
abbrev qE:=@Int.tmod_lt_of_pos
abbrev qF:=@List.append_nil
abbrev qN:=@List.map_append
abbrev qG:=@List.getElem_of_mem
abbrev qH:=@Nat.lt_of_lt_of_le
abbrev qI:=@Array.eq_empty_of_size_eq_zero
abbrev qL:=@List.mem_map
abbrev qJ:=@false_and
abbrev qK:=@Bool.not_eq_false
abbrev qM:=@List.length_filter_le
abbrev qO:=@Array.getD_eq_getD_getElem?
abbrev qP:=@Int.fdiv_eq_ediv_of_nonneg
abbrev qQ:=@Array.getElem?_setIfInBounds_ne
abbrev qR:=@List.foldl_append
abbrev qS:=@List.mem_map_of_mem
abbrev qT:=@Int.tmod_nonneg
abbrev qU:=@List.getElem?_drop
abbrev qV:=@and_true
abbrev qW:=@List.findIdx?_eq_some_iff_findIdx_eq
abbrev qX:=@List.getElem?_take
abbrev qY:=@List.length_tail
abbrev qZ:=@List.getElem?_append
abbrev ya:=@List.range_eq_range'
abbrev yb:=@Bool.or_eq_false_iff
abbrev yc:=@of_decide_eq_true
abbrev yd:=@List.length_eq_one_iff
abbrev ye:=@Array.getElem?_append_left
abbrev yf:=@Eq.trans
abbrev yg:=@and_false
abbrev yh:=@Array.all_eq_true'
abbrev yi:=@Array.mem_of_getElem?
abbrev yj:=@List.drop_drop
abbrev yk:=@Nat.eq_zero_or_pos
abbrev yl:=@and_self
abbrev ym:=@List.mem_of_mem_take
abbrev yn:=@List.find?_range_eq_none
abbrev yo:=@List.flatMap_cons
abbrev yp:=@Nat.mod_eq_of_lt
abbrev yq:=@List.range'_succ
abbrev yr:=@List.findIdx?_cons
abbrev yt:=@Nat.sub_self
abbrev yu:=@BitVec.toNat_ofInt
abbrev yw:=@Nat.le_of_ble_eq_true
abbrev yx:=@Nat.add_assoc
abbrev yy:=@false_or
abbrev yz:=@List.mem_or_eq_of_mem_set
abbrev yA:=@Int.mul_le_mul
abbrev yB:=@implies_true
abbrev yD:=@or_self
abbrev yE:=@true_or
abbrev yF:=@Nat.mod_lt
abbrev yG:=@List.nodup_cons
abbrev yH:=@List.find?_some
abbrev yI:=@List.size_toArray
abbrev yJ:=@or_true
abbrev yK:=@Array.getElem?_modify
abbrev yL:=@Int.mul_nonneg
abbrev yM:=@BitVec.eq_of_toNat_eq
abbrev yN:=@List.length_eraseIdx_of_lt
abbrev yO:=@Array.getElem?_push
abbrev yP:=@List.getD_cons_zero
abbrev yQ:=@Classical.byContradiction
abbrev yR:=@Array.getElem?_map
abbrev yS:=@List.find?_range_eq_some
abbrev yT:=@List.nodup_nil
abbrev yU:=@Array.size_append
abbrev yV:=@Option.mem_toList
abbrev yW:=@List.take_add_one
abbrev yX:=@List.mem_flatMap
abbrev yY:=@List.filter_cons
abbrev yZ:=@Nat.div_lt_iff_lt_mul
abbrev xa:=@List.take_append_drop
abbrev xb:=@and_assoc
abbrev xc:=@List.filterMap_append
abbrev xd:=@Nat.zero_mul
abbrev xe:=@Array.getElem?_range
abbrev xf:=@Nat.add_comm
abbrev xg:=@true_implies
abbrev xh:=@List.cons.injEq
abbrev xi:=@Option.mem_def
abbrev xj:=@List.mem_range
abbrev xk:=@imp_self
abbrev xl:=@Nat.sub_mul
abbrev xm:=@Nat.mul_one
abbrev xn:=@List.mem_filterMap
abbrev xo:=@Bool.not_eq_false'
abbrev xp:=@BitVec.toNat_ofNat
abbrev xq:=@List.filter_append
theorem o_ {p:Prop}(h:p:=by omega):p:=h
theorem p_ {p:Prop}(h:p:=by simp):p:=h
theorem g_ {p:Prop}(h:p:=by simp[go_sem]):p:=h
noncomputable section
namespace Go.Abs
inductive AV where
 |sc (v:Value)
 |dsl (z n:Nat) (g:Nat->List AV)
 |dslx (z n:Nat) (g:Nat->List AV)
 |sl (id off len tot:Nat)
 |ptr (id i o tot:Nat)
 |mp (id:Nat)
 |dE (cs:List AV)
 |agg (cs:List AV)
 |tup (cs:List AV)
 |fn (f:Fn) (first cap:List AV)
 |own (z n:Nat) (g:Nat->List AV)
 |hole
instance:Inhabited AV:=⟨.sc (.bool false)⟩
structure Sq where
 n:Nat
 g:Nat->List AV
inductive A7 where
 |box (cs:List AV)
 |arr (z:Nat) (s:Sq)
 |frz (z:Nat) (s:Sq)
 |frzb (cs:List AV)
 |map (k:IntKind) (es:List (Int×AV))
 |mapS (n:Nat) (es:List (List Int×AV))
 |arrP (z:Nat) (s:Sq)
 |gone
def AV.cells:AV->List AV
 | .agg cs=>cs
 |v=> [v]
mutual
def AV.pure:AV->Bool
 | .sc _=>true
 | .dsl .. =>true
 | .dslx .. =>true
 | .dE _=>true
 | .fn _ a b=>A2m a&&A2m b
 | .sl .. =>false
 | .ptr .. =>false
 | .mp _=>false
 | .agg _=>false
 | .tup _=>false
 | .own .. =>false
 | .hole=>false
def A2m:List AV->Bool
 | []=>true
 |c::cs=>c.pure&&A2m cs
end
theorem B6c: ∀ {cs:List AV} {j:Nat} {av:AV},A2m cs=true->cs[j]? =some av->av.pure=true
 | [],j,av,_,h=>by simp at h
 |c::cs,0,av,hn,h=>by simp only[List.getElem?_cons_zero,za]at h;subst h;simp only[A2m,zi]at hn;exact hn.1
 |c::cs,j+1,av,hn,h=>by simp only[List.getElem?_cons_succ]at h;simp only[A2m,zi]at hn;exact B6c hn.2 h
theorem C3x: ∀ {cs:List AV},(∀(j:Nat) (av:AV),cs[j]? =some av->av.pure=true)->A2m cs=true
 | [],_=>rfl
 |c::cs,h=>by simp only[A2m,zi];exact⟨h 0 c p_,C3x λj av hj=>h (j+1) av (by simpa using hj)⟩
def AV.one:AV->Bool
 | .agg _ | .tup _=>false
 |_=>true
def AV.flat:AV->Bool
 | .agg cs=>cs.all AV.pure
 |v=>v.pure
def A7.owned:A7->Bool
 | .frz .. =>false
 | .frzb _=>false
 |_=>true
inductive F79 where
 |cells |map |priv (p:Nat->Prop)
structure L4 where
 blk:Option Nat
 esz:Nat
 len:Nat
 cap:Nat
 kind:F79
def L4.pv(i:L4)(b:Nat):Prop:=match i.kind with
 | .priv p=>p b
 |_=>False
def L4.has(i:L4)(b:Nat):Prop:=i.blk=some b\/i.pv b
theorem L4.has_plain {i:L4}{b:Nat}(hk:i.kind= .cells\/i.kind= .map)(h:i.has b):i.blk=some b:=by
 rcases h with h |h
 ·exact h
 ·unfold L4.pv at h;grind
abbrev Place:=Nat->Option L4
def P6(ob:Place)(b:Nat):Prop:= ∃id i,ob id=some i/\i.has b
def SlV(i:L4)(off len:Nat)(v:Value):Prop:=
 off+len<=i.len/\(i.blk=none->v= .slice none 0 0\/ ∃a,v= .slice (some a) 0 0)/\
  ∀b,i.blk=some b-> ∃o c,v= .slice (some ⟨b,o,none⟩) len c/\len<=c/\(0<len->o=off*i.esz)/\(off=0->o=0/\c=i.cap)
inductive Rel (G:Nat->Prop) (w:World) (ob:Place):AV->Value->Prop
 |sc {v:Value} (h:v.oneCell'=true):Rel G w ob (.sc v) v
 |hole {v:Value} (h:v.oneCell'=true):Rel G w ob .hole v
 |dslNil {z:Nat} {g:Nat->List AV}:Rel G w ob (.dsl z 0 g) (.slice none 0 0)
 |dslxNil {z:Nat} {g:Nat->List AV}:Rel G w ob (.dslx z 0 g) (.slice none 0 0)
 |dslE {z:Nat} {g:Nat->List AV} (a:Addr) (cap:Nat):Rel G w ob (.dsl z 0 g) (.slice (some a) 0 cap)
 |dslxE {z:Nat} {g:Nat->List AV} (a:Addr):Rel G w ob (.dslx z 0 g) (.slice (some a) 0 0)
 |dsl {esz n:Nat} {g:Nat->List AV} (b off cap:Nat) (c:Nat->Nat->Value) (hG:G b) (hcap:n<=cap)
   (hlen: ∀(i:Nat),i<n->(g i).length=esz)
   (hp: ∀(i j:Nat) (av:AV),i<n->(g i)[j]? =some av->av.pure=true)
   (hc: ∀i j,i<n->j<esz->w.cell? ⟨b,off+(i*esz+j),none⟩=some (c i j))
   (hr: ∀(i j:Nat) (av:AV),i<n->(g i)[j]? =some av->Rel G w ob av (c i j)):
   Rel G w ob (.dsl esz n g) (.slice (some ⟨b,off,none⟩) n cap)
 |dslx {esz n:Nat} {g:Nat->List AV} (b off:Nat) (c:Nat->Nat->Value) (hG:G b)
   (hlen: ∀(i:Nat),i<n->(g i).length=esz)
   (hp: ∀(i j:Nat) (av:AV),i<n->(g i)[j]? =some av->av.pure=true)
   (hc: ∀i j,i<n->j<esz->w.cell? ⟨b,off+(i*esz+j),none⟩=some (c i j))
   (hr: ∀(i j:Nat) (av:AV),i<n->(g i)[j]? =some av->Rel G w ob av (c i j)):
   Rel G w ob (.dslx esz n g) (.slice (some ⟨b,off,none⟩) n n)
 |sl {id off len tot:Nat} {v:Value} (i:L4) (h:ob id=some i) (hle:tot<=i.len) (hs: ∃a c,v= .slice a len c)
   (hv:i.len=tot->SlV i off len v):Rel G w ob (.sl id off len tot) v
 |ptr {id k o tot:Nat} (a:Addr) (i:L4) (h:ob id=some i) (hle:tot<=i.len)
   (hv:i.len=tot-> ∃b,i.blk=some b/\a=⟨b,k*i.esz+o,none⟩/\k<i.len):Rel G w ob (.ptr id k o tot) (.pointer (some a))
 |mp {id:Nat} (b:Nat) (i:L4) (h:ob id=some i) (hb:i.blk=some b) (hm:i.kind= .map):Rel G w ob (.mp id) (.map (some b))
 |dE {cs:List AV} (b off:Nat) (c:Nat->Value) (hG:G b)
   (hp: ∀(j:Nat) (av:AV),cs[j]? =some av->av.pure=true)
   (hc: ∀j,j<cs.length->w.cell? ⟨b,off+j,none⟩=some (c j))
   (hr: ∀(j:Nat) (av:AV),cs[j]? =some av->Rel G w ob av (c j)):Rel G w ob (.dE cs) (.pointer (some ⟨b,off,none⟩))
 |agg {cs:List AV} (vs:Array Value) (hn:vs.size=cs.length) (ho: ∀(j:Nat) (av:AV),cs[j]? =some av->av.one=true)
   (hr: ∀(j:Nat) (av:AV),cs[j]? =some av->Rel G w ob av (vs.getD j undef)):Rel G w ob (.agg cs) (.agg vs)
 |tup {cs:List AV} (vs:Array Value) (hn:vs.size=cs.length)
   (hr: ∀(j:Nat) (av:AV),cs[j]? =some av->Rel G w ob av (vs.getD j undef)):Rel G w ob (.tup cs) (.tuple vs)
 |fn {f:Fn} {xs ys:List AV} (vs us:Array Value) (hn:vs.size=xs.length) (hm:us.size=ys.length)
   (hr: ∀(j:Nat) (av:AV),xs[j]? =some av->Rel G w ob av (vs.getD j undef))
   (hq: ∀(j:Nat) (av:AV),ys[j]? =some av->Rel G w ob av (us.getD j undef)):Rel G w ob (.fn f xs ys) (.func f vs us)
def D4(ob ob':Place):Prop:= ∀id i,ob id=some i-> ∃i',ob' id=some i'/\(i'=i\/(∃p q,i.kind= .priv p/\i'= {i with kind:=q})\/(i.len<i'.len/\i.kind≠ .map))
theorem D4.refl(ob:Place):D4 ob ob:=λ_ i h=>⟨i,h, .inl rfl⟩
theorem D4.trans {o1 o2 o3:Place}(h:D4 o1 o2)(h':D4 o2 o3):D4 o1 o3:=by
 intro id i hi;obtain⟨i',hi',h1⟩:=h id i hi;obtain⟨i'',hi'',h2⟩:=h' id i' hi'
 grind
variable {w w':World} {off:Nat}
theorem C26 {b:Nat}(h:w'.heap[b]? =w.heap[b]?):w'.cell? ⟨b,off,none⟩=w.cell? ⟨b,off,none⟩:=by simp only[World.cell?,h]
variable {G:Nat->Prop} {ob:Place} {v:Value} {av:AV} {ob':Place} {G':Nat->Prop}
theorem Rel.ext(h:Rel G w ob av v)
  (hG: ∀b,G b->G' b)(hw: ∀b,G b->w'.heap[b]? =w.heap[b]?)(hob:D4 ob ob'):Rel G' w' ob' av v:=by
 induction h with
 |sc h=>exact .sc h
 |hole h=>exact .hole h
 |dslNil=>exact .dslNil
 |dslxNil=>exact .dslxNil
 |dslE a cap=>exact .dslE a cap
 |dslxE a=>exact .dslxE a
 |dsl b off cap c hg hcap hlen hp hc hr ih=>exact .dsl b off cap c (hG b hg) hcap hlen hp (λi j hi hj=>by rw[C26 (hw b hg)];exact hc i j hi hj) ih
 |dslx b off c hg hlen hp hc hr ih=>exact .dslx b off c (hG b hg) hlen hp (λi j hi hj=>by rw[C26 (hw b hg)];exact hc i j hi hj) ih
 |sl i h hle hs hv=>
  obtain⟨i',h',hi⟩:=hob _ i h;rcases hi with rfl |⟨p,q,hk,rfl⟩ |⟨hlt,_⟩
  ·exact .sl i' h' hle hs hv
  ·exact .sl _ h' hle hs hv
  ·exact .sl i' h' o_ hs (λe=>by omega)
 |ptr a i h hle hv=>
  obtain⟨i',h',hi⟩:=hob _ i h;rcases hi with rfl |⟨p,q,hk,rfl⟩ |⟨hlt,_⟩
  ·exact .ptr a i' h' hle hv
  ·exact .ptr a _ h' hle hv
  ·exact .ptr a i' h' o_ (λe=>by omega)
 |mp b i h hb hm=>
  obtain⟨i',h',hi⟩:=hob _ i h;rcases hi with rfl |⟨p,q,hk,rfl⟩ |⟨_,hf⟩
  ·exact .mp b i' h' hb hm
  all_goals grind
 |dE b off c hg hp hc hr ih=>exact .dE b off c (hG b hg) hp (λj hj=>by rw[C26 (hw b hg)];exact hc j hj) ih
 |agg vs hn ho hr ih=>exact .agg vs hn ho ih
 |tup vs hn hr ih=>exact .tup vs hn ih
 |fn vs us hn hm hr hq ih1 ih2=>exact .fn vs us hn hm ih1 ih2
theorem Rel.ob_free(h:Rel G w ob av v)(hp:av.pure=true):Rel G w ob' av v:=by
 induction h with
 |sc h=>exact .sc h
 |hole h=>exact .hole h
 |dslNil=>exact .dslNil
 |dslxNil=>exact .dslxNil
 |dslE a cap=>exact .dslE a cap
 |dslxE a=>exact .dslxE a
 |dsl b off cap c hg hcap hlen hpp hc hr ih=>exact .dsl b off cap c hg hcap hlen hpp hc (λi j av hi h=>ih i j av hi h (hpp i j av hi h))
 |dslx b off c hg hlen hpp hc hr ih=>exact .dslx b off c hg hlen hpp hc (λi j av hi h=>ih i j av hi h (hpp i j av hi h))
 |dE b off c hg hpp hc hr ih=>exact .dE b off c hg hpp hc (λj av h=>ih j av h (hpp j av h))
 |fn vs us hn hm hr hq ih1 ih2=>simp only[AV.pure,zi]at hp;exact .fn vs us hn hm (λj av h=>ih1 j av h (B6c hp.1 h)) (λj av h=>ih2 j av h (B6c hp.2 h))
 |_=>simp[AV.pure]at hp
theorem Rel.one_cell(h:Rel G w ob av v)(ho:av.one=true):v.oneCell'=true:=by
 cases h with
 |sc h=>exact h
 |hole h=>exact h
 |sl i h hle hs hv=>obtain⟨a,c,rfl⟩:=hs;rfl
 |agg=>simp[AV.one]at ho
 |tup=>simp[AV.one]at ho
 |_=>rfl
theorem Rel.flat_free(h:Rel G w ob av v)(hp:av.flat=true):Rel G w ob' av v:=by
 by_cases hq:av.pure=true
 ·exact h.ob_free hq
 ·cases h with
  |agg vs hn ho hr=>simp only[AV.flat,qm]at hp;exact .agg vs hn ho (λj av hj=>(hr j av hj).ob_free (hp av (qv hj)))
  |_=>exact absurd hp hq
def B0l(G:Nat->Prop)(w:World)(ob:Place)(arr:Array Value)(esz:Nat)(s:Sq):Prop:=
 (∀(i:Nat),i<s.n->(s.g i).length=esz)/\
 ∀(i j:Nat) (av:AV),i<s.n->(s.g i)[j]? =some av->av.pure=true/\ ∃v,arr[i*esz+j]? =some v/\Rel G w ob av v
def A9o(G:Nat->Prop)(w:World)(ob:Place)(β:Option Nat):AV->Value->Prop
 | .own z n g,v=>(β=none/\n=0/\(v= .slice none 0 0\/ ∃a,v= .slice (some a) 0 0))\/
    ∃(b cap:Nat) (arr:Array Value) (T:TypeId),β=some b/\n<=cap/\v= .slice (some ⟨b,0,none⟩) n cap/\w.heap[b]? =some (.cells arr T (0,0))/\arr.size=cap*z/\B0l G w ob arr z ⟨n,g⟩
 | .hole,v=>v.oneCell'=true/\β=none
 |av,v=>av.pure=true/\β=none/\Rel G w ob av v
def A7y(G:Nat->Prop)(w:World)(ob:Place)(arr:Array Value)(esz:Nat)(s:Sq)(β:Nat->Nat->Option Nat):Prop:=
 (∀(i:Nat),i<s.n->(s.g i).length=esz)/\
 ∀(i j:Nat) (av:AV),i<s.n->(s.g i)[j]? =some av-> ∃v,arr[i*esz+j]? =some v/\A9o G w ob (β i j) av v
structure C1w (b:Nat) (n z:Nat) (p:Nat->Prop) (β:Nat->Nat->Option Nat):Prop where
 sub: ∀i j x,i<n->j<z->β i j=some x->p x
 all: ∀x,p x-> ∃i j,i<n/\j<z/\β i j=some x
 inj: ∀i j i' j' x,i<n->j<z->i'<n->j'<z->β i j=some x->β i' j'=some x->i=i'/\j=j'
 ne: ¬p b
def A37(zs:List Int):Value:= .agg (zs.map (Value.int .i64)).toArray
def P4(G:Nat->Prop)(w:World)(ob:Place)(i:L4):A7->Prop
 | .box cs=>i.kind= .cells/\i.len=1/\i.esz=cs.length/\ ∃(b:Nat) (arr:Array Value) (T:TypeId),i.blk=some b/\w.heap[b]? =some (.cells arr T (0,0))/\arr.size=cs.length/\
    ∀(j:Nat) (av:AV),cs[j]? =some av->av.one=true/\ ∃v,arr[j]? =some v/\Rel G w ob av v
 | .arr z s=>i.kind= .cells/\i.esz=z/\i.len=s.n/\s.n<=i.cap/\((i.blk=none/\s.n=0/\i.cap=0)\/ ∃(b:Nat) (arr:Array Value) (T:TypeId),i.blk=some b/\w.heap[b]? =some (.cells arr T (0,0))/\
    arr.size=i.cap*i.esz/\B0l G w ob arr i.esz s)
 | .frz z s=>i.kind= .cells/\i.esz=z/\i.len=s.n/\s.n<=i.cap/\((i.blk=none/\s.n=0/\i.cap=0)\/ ∃(b:Nat) (arr:Array Value) (T:TypeId) (fz:Nat×Nat),i.blk=some b/\G b/\w.heap[b]? =some (.cells arr T fz)/\
    B0l G w ob arr i.esz s)
 | .frzb cs=>i.kind= .cells/\i.len=1/\i.esz=cs.length/\ ∃(b:Nat) (arr:Array Value) (T:TypeId) (fz:Nat×Nat),i.blk=some b/\G b/\w.heap[b]? =some (.cells arr T fz)/\arr.size=cs.length/\
    ∀(j:Nat) (av:AV),cs[j]? =some av->av.pure=true/\ ∃v,arr[j]? =some v/\Rel G w ob av v
 | .gone=>i.kind= .cells/\i.blk=none
 | .arrP z s=>i.esz=z/\i.len=s.n/\s.n<=i.cap/\ ∃p,i.kind= .priv p/\((i.blk=none/\s.n=0/\i.cap=0/\ ∀x,¬p x)\/ ∃(b:Nat) (arr:Array Value) (T:TypeId) (β:Nat->Nat->Option Nat),i.blk=some b/\w.heap[b]? =some (.cells arr T (0,0))/\
    arr.size=i.cap*i.esz/\A7y G w ob arr i.esz s β/\C1w b s.n z p β)
 | .map k es=>i.kind= .map/\ ∃(b:Nat) (ents:Array MapEntry) (clock:Nat),i.blk=some b/\w.heap[b]? =some (.map ents clock)/\ents.size=es.length/\
    ∀(j:Nat) (z:Int) (av:AV),es[j]? =some (z,av)->av.flat=true/\ ∃(e:MapEntry),ents[j]? =some e/\e.key= .int k z/\Rel G w ob av e.val
 | .mapS n es=>i.kind= .map/\ ∃(b:Nat) (ents:Array MapEntry) (clock:Nat),i.blk=some b/\w.heap[b]? =some (.map ents clock)/\ents.size=es.length/\
    ∀(j:Nat) (z:List Int) (av:AV),es[j]? =some (z,av)->(av.flat=true/\z.length=n)/\ ∃(e:MapEntry),ents[j]? =some e/\e.key=A37 z/\Rel G w ob av e.val
structure E8 (G:Nat->Prop) (w:World) (ob:Place) (m:Nat->Option A7):Prop where
 dom: ∀id,m id=none↔ob id=none
 inj: ∀id id' i i' b,ob id=some i->ob id'=some i'->i.has b->i'.has b->id=id'
 lt: ∀b,G b->b<w.heap.size
 own: ∀id o i,m id=some o->ob id=some i->P4 G w ob i o
 sep: ∀id o i b,m id=some o->o.owned=true->ob id=some i->i.has b-> ¬G b
structure Fr (G:Nat->Prop) (w:World) (ob:Place) (G':Nat->Prop) (w':World) (ob':Place):Prop where
 size:w.heap.size<=w'.heap.size
 same: ∀b,b<w.heap.size->(G b\/ ¬P6 ob b)->w'.heap[b]? =w.heap[b]?
 blk: ∀b,P6 ob' b->P6 ob b\/w.heap.size<=b
 sub: ∀b,G b->G' b
 new: ∀b,G' b->G b\/w.heap.size<=b\/P6 ob b
 os:w'.os=w.os
 tape:w'.tape=w.tape
 output:w'.output=w.output
 drawn:w.drawn<=w'.drawn
theorem Fr.refl(G:Nat->Prop)(w:World)(ob:Place):Fr G w ob G w ob:=⟨ze _,λ_ _ _=>rfl,λ_ h=> .inl h,λ_ h=>h,λ_ h=> .inl h,rfl,rfl,rfl,ze _⟩
theorem Fr.trans {G G1 G2:Nat->Prop}{w w1 w2:World}{ob ob1 ob2:Place}(h:Fr G w ob G1 w1 ob1)(h':Fr G1 w1 ob1 G2 w2 ob2):Fr G w ob G2 w2 ob2 where
 size:=qd h.size h'.size
 same:=λb hb hc=>by
  rw[h'.same b (qH hb h.size) ?_,h.same b hb hc];rcases hc with hc |hc
  ·exact .inl (h.sub b hc)
  ·refine .inr λhk=> ?_;rcases h.blk b hk with h1 |h1
   ·exact hc h1
   ·omega
 blk:=λb hb=>by
  rcases h'.blk b hb with h1 |h1
  ·exact h.blk b h1
  ·exact .inr (qd h.size h1)
 sub:=λb hb=>h'.sub b (h.sub b hb)
 new:=λb hb=>by
  rcases h'.new b hb with h1 |h1 |h1
  ·exact h.new b h1
  ·exact .inr (.inl (qd h.size h1))
  ·rcases h.blk b h1 with h2 |h2
   all_goals grind
 os:=h'.os.trans h.os
 tape:=h'.tape.trans h.tape
 output:=h'.output.trans h.output
 drawn:=qd h.drawn h'.drawn
theorem B0l.ext {G G':Nat->Prop}{w w':World}{ob ob':Place}{arr:Array Value}{esz:Nat}{s:Sq}(h:B0l G w ob arr esz s)
  (hG: ∀b,G b->G' b)(hw: ∀b,G b->w'.heap[b]? =w.heap[b]?)(hob:D4 ob ob'):B0l G' w' ob' arr esz s:=
 ⟨h.1,λi j av hi hj=>let⟨hp,v,hv,hr⟩:=h.2 i j av hi hj;⟨hp,v,hv,hr.ext hG hw hob⟩⟩
theorem A9o.ext {G G':Nat->Prop}{w w':World}{ob ob':Place}{β:Option Nat}{av:AV}{v:Value}(h:A9o G w ob β av v)
  (hG: ∀b,G b->G' b)(hw: ∀b,G b->w'.heap[b]? =w.heap[b]?)(hob:D4 ob ob')(hb: ∀b,β=some b->w'.heap[b]? =w.heap[b]?):A9o G' w' ob' β av v:=by
 cases av with
 |own z n g=>
  rcases h with h |⟨b,cap,arr,T,h1,h2,h3,h4,h5,h6⟩
  ·exact .inl h
  ·exact .inr ⟨b,cap,arr,T,h1,h2,h3,by rw[hb b h1];exact h4,h5,h6.ext hG hw hob⟩
 |hole=>exact h
 |_=>exact⟨h.1,h.2.1,h.2.2.ext hG hw hob⟩
theorem A7y.ext {G G':Nat->Prop}{w w':World}{ob ob':Place}{arr:Array Value}{esz:Nat}{s:Sq}{β:Nat->Nat->Option Nat}(h:A7y G w ob arr esz s β)
  (hG: ∀b,G b->G' b)(hw: ∀b,G b->w'.heap[b]? =w.heap[b]?)(hob:D4 ob ob')(hb: ∀i j b,i<s.n->j<esz->β i j=some b->w'.heap[b]? =w.heap[b]?):A7y G' w' ob' arr esz s β:=
 ⟨h.1,λi j av hi hj=>let⟨v,hv,hr⟩:=h.2 i j av hi hj;⟨v,hv,hr.ext hG hw hob λb hβ=>hb i j b hi (by
   have:=h.1 i hi
   grind) hβ⟩⟩
theorem P4.ext {G G':Nat->Prop}{w w':World}{ob ob':Place}{i:L4}{o:A7}(h:P4 G w ob i o)
  (hG: ∀b,G b->G' b)(hw: ∀b,G b->w'.heap[b]? =w.heap[b]?)(hob:D4 ob ob')(hb: ∀b,i.has b->w'.heap[b]? =w.heap[b]?):P4 G' w' ob' i o:=by
 cases o with
 |box cs=>obtain⟨h0,h1,h2,b,arr,T,h3,h4,h5,h6⟩:=h;exact⟨h0,h1,h2,b,arr,T,h3,by rw[hb b (.inl h3)];exact h4,h5,λj av hj=>let⟨ho,v,hv,hr⟩:=h6 j av hj;⟨ho,v,hv,hr.ext hG hw hob⟩⟩
 |arr z s=>
  obtain⟨h0,h00,h1,h2,h3⟩:=h;refine⟨h0,h00,h1,h2,?_⟩;rcases h3 with h3 |⟨b,arr,T,h3,h4,h5,h6⟩
  ·exact .inl h3
  ·exact .inr ⟨b,arr,T,h3,by rw[hb b (.inl h3)];exact h4,h5,h6.ext hG hw hob⟩
 |frz z s=>
  obtain⟨h0,h00,h1,h2,h3⟩:=h;refine⟨h0,h00,h1,h2,?_⟩;rcases h3 with h3 |⟨b,arr,T,fz,h3,h4,h5,h6⟩
  ·exact .inl h3
  ·exact .inr ⟨b,arr,T,fz,h3,hG b h4,by rw[hb b (.inl h3)];exact h5,h6.ext hG hw hob⟩
 |frzb cs=>obtain⟨h0,h1,h2,b,arr,T,fz,h3,h4,h5,h6,h7⟩:=h;exact⟨h0,h1,h2,b,arr,T,fz,h3,hG b h4,by rw[hb b (.inl h3)];exact h5,h6,λj av hj=>let⟨ho,v,hv,hr⟩:=h7 j av hj;⟨ho,v,hv,hr.ext hG hw hob⟩⟩
 |map k es=>obtain⟨h0,b,ents,clock,h3,h4,h5,h6⟩:=h;exact⟨h0,b,ents,clock,h3,by rw[hb b (.inl h3)];exact h4,h5,λj z av hj=>let⟨hf,e,he,hk,hr⟩:=h6 j z av hj;⟨hf,e,he,hk,hr.ext hG hw hob⟩⟩
 |mapS k es=>obtain⟨h0,b,ents,clock,h3,h4,h5,h6⟩:=h;exact⟨h0,b,ents,clock,h3,by rw[hb b (.inl h3)];exact h4,h5,λj z av hj=>let⟨hf,e,he,hk,hr⟩:=h6 j z av hj;⟨hf,e,he,hk,hr.ext hG hw hob⟩⟩
 |gone=>exact h
 |arrP z s=>
  obtain⟨h00,h1,h2,p,hk,h3⟩:=h;refine⟨h00,h1,h2,p,hk,?_⟩;rcases h3 with h3 |⟨b,arr,T,β,h3,h4,h5,h6,h7⟩
  ·exact .inl h3
  ·refine .inr ⟨b,arr,T,β,h3,by rw[hb b (.inl h3)];exact h4,h5,h6.ext hG hw hob λk j x hk' hj hx=>hb x (.inr ?_),h7⟩;unfold L4.pv;rw[hk];exact h7.sub k j x hk' o_ hx
theorem P4.has_lt {i:L4}{o:A7}(h:P4 G w ob i o){b:Nat}(hb:i.has b):b<w.heap.size:=by
 have key: ∀x,w.heap[b]? =some x->b<w.heap.size:=λx hx=>by grind
 cases o with
 |gone=>have:=L4.has_plain (.inl h.1) hb;rw[h.2]at this;cases this
 |arrP z s=>
  obtain⟨h00,_,_,p,hk,h3⟩:=h;rcases h3 with⟨h3,_,_,h4⟩ |⟨b',arr,T,β,h3,h4,_,h6,h7⟩
  ·rcases hb with hb |hb
   ·rw[hb]at h3;cases h3
   ·unfold L4.pv at hb;rw[hk]at hb;exact absurd hb (h4 b)
  ·rcases hb with hb |hb
   ·grind
   ·unfold L4.pv at hb;rw[hk]at hb;obtain⟨k,j,hk',hj,hβ⟩:=h7.all b hb;have hlen:=h6.1 k hk';obtain⟨av,hav⟩: ∃av,(s.g k)[j]? =some av:=⟨_,zg o_⟩;obtain⟨v,_,hc⟩:=h6.2 k j av hk' hav;rw[hβ]at hc;cases av with
    |own z' n' g'=>
     rcases hc with⟨hc,_⟩ |⟨b2,cap,arr2,T2,hc,_,_,h8,_⟩
     all_goals grind
    |hole=>cases hc.2
    |_=>cases hc.2.1
 |box cs=>
  have hb:=L4.has_plain (.inl h.1) hb;obtain⟨_,_,_,b',arr,T,h3,h4,_⟩:=h
  grind
 |arr z s=>
  have hb:=L4.has_plain (.inl h.1) hb;obtain⟨_,_,_,_,h3 |⟨b',arr,T,h3,h4,_⟩⟩:=h
  all_goals grind
 |frz z s=>
  have hb:=L4.has_plain (.inl h.1) hb;obtain⟨_,_,_,_,h3 |⟨b',arr,T,fz,h3,_,h4,_⟩⟩:=h
  all_goals grind
 |frzb cs=>
  have hb:=L4.has_plain (.inl h.1) hb;obtain⟨_,_,_,b',arr,T,fz,h3,_,h4,_⟩:=h
  grind
 |map k es=>
  have hb:=L4.has_plain (.inr h.1) hb;obtain⟨_,b',ents,clock,h3,h4,_⟩:=h
  grind
 |mapS k es=>
  have hb:=L4.has_plain (.inr h.1) hb;obtain⟨_,b',ents,clock,h3,h4,_⟩:=h
  grind
theorem P4.blk_lt {i:L4}{o:A7}(h:P4 G w ob i o){b:Nat}(hb:i.blk=some b):b<w.heap.size:=h.has_lt (.inl hb)
variable {z:Nat} {s:Sq}
theorem P4.arr_none {i:L4}(h:P4 G w ob i (.arr z s))(hb:i.blk=none):s.n=0:=by
 rcases h.2.2.2.2 with h |⟨b,_,_,h,_⟩
 ·exact h.2.1
 ·rw[hb]at h;cases h
theorem P4.frz_none {i:L4}(h:P4 G w ob i (.frz z s))(hb:i.blk=none):s.n=0:=by
 rcases h.2.2.2.2 with h |⟨b,_,_,_,h,_⟩
 ·exact h.2.1
 ·rw[hb]at h;cases h
def upd {β:Type}(f:Nat->Option β)(k:Nat)(v:Option β):Nat->Option β:=λx=>if x=k then v else f x
variable {β:Type}
@[simp] theorem A03(f:Nat->Option β)(k:Nat)(v:Option β):upd f k v k=v:=by simp[upd]
variable {k:Nat}
theorem J0 {f:Nat->Option β}{x:Nat}{v:Option β}(h:x≠k):upd f k v x=f x:=by simp[upd,h]
variable {m:Nat->Option A7}
theorem E8.updateP(h:E8 G w ob m)(id:Nat)(o:A7)(i:L4)
  (hsz:w.heap.size<=w'.heap.size)
  (hh: ∀b,b<w.heap.size->(∀j,ob id=some j-> ¬j.has b)->w'.heap[b]? =w.heap[b]?)
  (hi: ∀j,ob id=some j->i=j\/(∃p q,j.kind= .priv p/\i= {j with kind:=q})\/(j.len<i.len/\j.kind≠ .map))
  (hb: ∀b,i.has b->(∃j,ob id=some j/\j.has b)\/w.heap.size<=b)
  (hnG: ∀j,ob id=some j-> ∀b,j.has b->G b->w'.heap[b]? =w.heap[b]?)
  (ho:P4 G w' (upd ob id (some i)) i o)
  (hs:o.owned=true-> ∀b,i.has b-> ¬G b)
  :E8 G w' (upd ob id (some i)) (upd m id (some o))/\D4 ob (upd ob id (some i))/\ ∀b,P6 (upd ob id (some i)) b->P6 ob b\/w.heap.size<=b:=by
 have hGw: ∀b,G b->w'.heap[b]? =w.heap[b]? :=λb hG=>by
  by_cases hx: ∀j,ob id=some j-> ¬j.has b
  ·exact hh b (h.lt b hG) hx
  grind
 have hob:D4 ob (upd ob id (some i)):=λx j hj=>by
  by_cases hx:x=id
  ·subst hx;exact⟨i,p_,hi j hj⟩
  ·exact⟨j,by rw[J0 hx];exact hj, .inl rfl⟩
 refine⟨⟨?_,?_,?_,?_,?_⟩,hob,?_⟩
 ·intro x;by_cases hx:x=id
  ·subst hx;simp
  ·rw[J0 hx,J0 hx];exact h.dom x
 ·intro x y j j' b hj hj' hbj hbj';by_cases hx:x=id
  ·by_cases hy:y=id
   ·rw[hx,hy]
   ·subst hx;simp only[A03,za]at hj;subst hj;rw[J0 hy]at hj';rcases hb b hbj with⟨k,hk,hkb⟩ |hlt
    ·exact h.inj _ _ _ _ b hk hj' hkb hbj'
    ·cases ho':m y with
     |none=>rw[(h.dom y).1 ho']at hj';cases hj'
     |some o'=>have:=(h.own y o' j' ho' hj').has_lt hbj';omega
  ·by_cases hy:y=id
   ·subst hy;simp only[A03,za]at hj';subst hj';rw[J0 hx]at hj;rcases hb b hbj' with⟨k,hk,hkb⟩ |hlt
    ·exact h.inj _ _ _ _ b hj hk hbj hkb
    ·cases ho':m x with
     |none=>rw[(h.dom x).1 ho']at hj;cases hj
     |some o'=>have:=(h.own x o' j ho' hj).has_lt hbj;omega
   ·rw[J0 hx]at hj;rw[J0 hy]at hj';exact h.inj _ _ _ _ b hj hj' hbj hbj'
 ·intro b hG;exact qH (h.lt b hG) hsz
 ·intro x o' j ho' hj;by_cases hx:x=id
  ·simp_all
  ·rw[J0 hx]at ho' hj;have hr:=h.own x o' j ho' hj;refine hr.ext (λ_ h=>h) hGw hob λb hb'=>hh b (hr.has_lt hb') λk hk hkb=> ?_;exact hx (h.inj _ _ _ _ b hj hk hb' hkb)
 ·intro x o' j b ho' hown hj hb';by_cases hx:x=id
  ·simp_all
  ·rw[J0 hx]at ho' hj;exact h.sep x o' j b ho' hown hj hb'
 ·rintro b ⟨x,j,hj,hbj⟩;by_cases hx:x=id
  ·subst hx;simp only[A03,za]at hj;subst hj;rcases hb b hbj with⟨k,hk,hkb⟩ |hlt
   ·exact .inl ⟨_,k,hk,hkb⟩
   ·exact .inr hlt
  ·rw[J0 hx]at hj;exact .inl ⟨x,j,hj,hbj⟩
def A7.isP:A7->Bool
 | .arrP .. =>true
 |_=>false
theorem P4.plain {i:L4}{o:A7}(h:P4 G w ob i o)(hp:o.isP=false):i.kind= .cells\/i.kind= .map:=by
 cases o with
 |arrP=>cases hp
 |map=>exact .inr h.1
 |mapS=>exact .inr h.1
 |_=>exact .inl h.1
theorem E8.update(h:E8 G w ob m)(id:Nat)(o:A7)(i:L4)
  (hsz:w.heap.size<=w'.heap.size)
  (hh: ∀b,b<w.heap.size->(∀j,ob id=some j->j.blk≠some b)->w'.heap[b]? =w.heap[b]?)
  (hi: ∀j,ob id=some j->i=j\/(j.len<i.len/\j.kind= .cells))
  (hb: ∀b,i.blk=some b->(∃j,ob id=some j/\j.blk=some b)\/w.heap.size<=b)
  (hnG: ∀j,ob id=some j-> ∀b,j.blk=some b->G b->w'.heap[b]? =w.heap[b]?)
  (ho:P4 G w' (upd ob id (some i)) i o)
  (hs:o.owned=true-> ∀b,i.blk=some b-> ¬G b)
  (hm0: ∀o0,m id=some o0->o0.isP=false)(hP:o.isP=false:=by rfl)
  :E8 G w' (upd ob id (some i)) (upd m id (some o))/\D4 ob (upd ob id (some i))/\ ∀b,P6 (upd ob id (some i)) b->P6 ob b\/w.heap.size<=b:=by
 have hki:=ho.plain hP
 have hkj: ∀j,ob id=some j-> ∀b,j.has b->j.blk=some b:=λj hj b hb=>by
  cases hm:m id with
  |none=>rw[(h.dom id).1 hm]at hj;cases hj
  |some o0=>exact L4.has_plain ((h.own id o0 j hm hj).plain (hm0 o0 hm)) hb
 refine h.updateP id o i hsz (λb hb hj=>hh b hb λj hj' hjb=>hj j hj' (.inl hjb)) (λj hj=> ?_) (λb hb'=> ?_) (λj hj b hjb=>hnG j hj b (hkj j hj b hjb)) ho (λhow b hb'=>hs how b (L4.has_plain hki hb'))
 ·grind
 ·rcases hb b (L4.has_plain hki hb')with⟨j,hj,hjb⟩ |h1
  ·exact .inl ⟨j,hj, .inl hjb⟩
  ·exact .inr h1
def L4.to(j i:L4):Prop:=i=j\/(∃p q,j.kind= .priv p/\i= {j with kind:=q})\/(j.len<i.len/\j.kind≠ .map)
theorem E8.update2(h:E8 G w ob m)(x y:Nat)(hne:x≠y)(o1 o2:A7)(i1 i2:L4)
  (hsz:w.heap.size<=w'.heap.size)
  (hh: ∀b,b<w.heap.size->(∀j,ob x=some j-> ¬j.has b)->(∀j,ob y=some j-> ¬j.has b)->w'.heap[b]? =w.heap[b]?)
  (hG: ∀b,G b->w'.heap[b]? =w.heap[b]?)
  (hi1: ∀j,ob x=some j->j.to i1)(hi2: ∀j,ob y=some j->j.to i2)
  (hb1: ∀b,i1.has b->(∃j,ob x=some j/\j.has b)\/(∃j,ob y=some j/\j.has b))
  (hb2: ∀b,i2.has b->(∃j,ob x=some j/\j.has b)\/(∃j,ob y=some j/\j.has b))
  (hd: ∀b,i1.has b->i2.has b->False)
  (ho1:P4 G w' (upd (upd ob x (some i1)) y (some i2)) i1 o1)(ho2:P4 G w' (upd (upd ob x (some i1)) y (some i2)) i2 o2)
  (hs1:o1.owned=true-> ∀b,i1.has b-> ¬G b)(hs2:o2.owned=true-> ∀b,i2.has b-> ¬G b):
  E8 G w' (upd (upd ob x (some i1)) y (some i2)) (upd (upd m x (some o1)) y (some o2))/\D4 ob (upd (upd ob x (some i1)) y (some i2))/\
   ∀b,P6 (upd (upd ob x (some i1)) y (some i2)) b->P6 ob b:=by
 have obx:upd (upd ob x (some i1)) y (some i2) x=some i1:=by rw[J0 hne];simp
 have oby:upd (upd ob x (some i1)) y (some i2) y=some i2:=p_
 have obo: ∀q,q≠x->q≠y->upd (upd ob x (some i1)) y (some i2) q=ob q:=λq h1 h2=>by rw[J0 h2,J0 h1]
 have mx:upd (upd m x (some o1)) y (some o2) x=some o1:=by rw[J0 hne];simp
 have my:upd (upd m x (some o1)) y (some o2) y=some o2:=p_
 have mo: ∀q,q≠x->q≠y->upd (upd m x (some o1)) y (some o2) q=m q:=λq h1 h2=>by rw[J0 h2,J0 h1]
 have hob:D4 ob (upd (upd ob x (some i1)) y (some i2)):=λq j hj=>by
  by_cases hx:q=x
  ·subst hx;exact⟨i1,obx,hi1 j hj⟩
  ·by_cases hy:q=y
   ·subst hy;exact⟨i2,oby,hi2 j hj⟩
   grind
 generalize upd (upd ob x (some i1)) y (some i2)=ob' at*;generalize upd (upd m x (some o1)) y (some o2)=m' at*;have tri: ∀q j,ob' q=some j->(q=x/\j=i1)\/(q=y/\j=i2)\/(q≠x/\q≠y/\ob q=some j):=λq j hj=>by grind
 have oth: ∀q j b,q≠x->q≠y->ob q=some j->j.has b->((∃j,ob x=some j/\j.has b)\/(∃j,ob y=some j/\j.has b))->False:=λq j b hx hy hq hjb hc=>by
  rcases hc with⟨k,hk,hkb⟩ |⟨k,hk,hkb⟩
  ·exact hx (h.inj _ _ _ _ b hq hk hjb hkb)
  ·exact hy (h.inj _ _ _ _ b hq hk hjb hkb)
 refine⟨⟨λq=> ?_,λq r j k b hj hk hjb hkb=> ?_,λb hb=>qH (h.lt b hb) hsz,λq o j ho hj=> ?_,λq o j b ho hown hj hjb=> ?_⟩,hob,?_⟩
 ·by_cases hx:q=x
  ·subst hx;rw[mx,obx];simp
  ·by_cases hy:q=y
   ·subst hy;rw[my,oby];simp
   ·rw[mo q hx hy,obo q hx hy];exact h.dom q
 ·rcases tri q j hj with⟨rfl,rfl⟩ |⟨rfl,rfl⟩ |⟨a1,a2,a3⟩ <;> rcases tri r k hk with⟨rfl,rfl⟩ |⟨rfl,rfl⟩ |⟨c1,c2,c3⟩
  ·rfl
  ·exact(hd b hjb hkb).elim
  ·grind
  ·exact(hd b hkb hjb).elim
  ·rfl
  ·grind
  ·grind
  ·grind
  ·exact h.inj _ _ _ _ b a3 c3 hjb hkb
 ·rcases tri q j hj with⟨rfl,rfl⟩ |⟨rfl,rfl⟩ |⟨a1,a2,a3⟩
  ·grind
  ·grind
  ·rw[mo q a1 a2]at ho;have hr:=h.own q o j ho a3;exact hr.ext (λ_ h=>h) hG hob λb hb=>hh b (hr.has_lt hb) (λk hk hkb=>oth q j b a1 a2 a3 hb (.inl ⟨k,hk,hkb⟩)) (λk hk hkb=>oth q j b a1 a2 a3 hb (.inr ⟨k,hk,hkb⟩))
 ·rcases tri q j hj with⟨rfl,rfl⟩ |⟨rfl,rfl⟩ |⟨a1,a2,a3⟩
  ·grind
  ·grind
  ·rw[mo q a1 a2]at ho;exact h.sep q o j b ho hown a3 hjb
 ·rintro b ⟨q,j,hj,hjb⟩;rcases tri q j hj with⟨rfl,rfl⟩ |⟨rfl,rfl⟩ |⟨a1,a2,a3⟩
  ·rcases hb1 b hjb with⟨k,hk,hkb⟩ |⟨k,hk,hkb⟩
   ·exact⟨_,k,hk,hkb⟩
   ·exact⟨_,k,hk,hkb⟩
  ·rcases hb2 b hjb with⟨k,hk,hkb⟩ |⟨k,hk,hkb⟩
   ·exact⟨_,k,hk,hkb⟩
   ·exact⟨_,k,hk,hkb⟩
  ·exact⟨q,j,a3,hjb⟩
theorem E8.heap_eq(h:E8 G w ob m)(he:w'.heap=w.heap):E8 G w' ob m where
 dom:=h.dom
 inj:=h.inj
 lt:=by rw[he];exact h.lt
 own:=λid o i ho hi=>(h.own id o i ho hi).ext (λ_ h=>h) (λ_ _=>by rw[he]) (D4.refl ob) (λ_ _=>by rw[he])
 sep:=h.sep
inductive AX where
 |t (n:Nat)
 |k (v:AV)
inductive AOp where
 |mov (x:AX)
 |pick (c a b:AX)
 |alloc (zero:List Value)
 |box (x:AX)
 |build (zero:List Value) (E9:List (Nat×Nat×AX))
 |bslice (esz len:Nat) (zero:List Value) (E9:List (Nat×Nat×AX))
 |load (n:Option Nat) (x:AX)
 |store (n:Nat) (x y:AX)
 |bin (op:BinOp) (x y:AX)
 |eqa (shape:List Bool) (neg:Bool) (x y:AX)
 |un (op:UnOp) (x:AX)
 |convI (k:IntKind) (x:AX)
 |faddr (off:Nat) (x:AX)
 |fld (off:Nat) (n:Option Nat) (x:AX)
 |iaddr (esz:Nat) (x i:AX)
 |aaddr (len esz:Nat) (x i:AX)
 |len (x:AX)
 |mlen (x:AX)
 |eqb (neg:Bool) (x y:AX)
 |isnil (kd:Nat) (neg:Bool) (x:AX)
 |aslice (len esz:Nat) (x:AX)
 |append (esz bytes:Nat) (x y:AX)
 |slice (esz:Nat) (x:AX) (lo hi mx:Option AX)
 |mkslice (esz bytes:Nat) (zero:List Value) (n c:AX)
 |ext (x:AX) (i:Nat)
 |mkfn (f:Fn) (first cap:List AX)
 |nilck (x:AX)
 |minmax (isMax:Bool) (x y:AX)
 |mkmap (k:IntKind)
 |lookup (k:IntKind) (zero:Value) (ok:Bool) (x i:AX)
 |mset (k:IntKind) (x i y:AX)
 |mkmapS (n:Nat)
 |lookupS (n:Nat) (zero:Value) (ok:Bool) (x i:AX)
 |msetS (n:Nat) (x i y:AX)
 |call (f:FuncId) (xs:List AX)
 |callv (x:AX) (xs:List AX)
 |sidx (x i:AX)
 |bstr (x:AX)
 |eqs (neg:Bool) (x y:AX)
 |copy (z:Nat) (x y:AX)
 |clr (z:Nat) (zero:List Value) (x:AX)
 |cap0 (x:AX)
 |appz (esz bytes:Nat) (zero:List Value) (x n:AX)
 |aidx (len:Nat) (x i:AX)
 |slen (x:AX)
 |sadd (x y:AX)
 |sslice (x:AX) (lo hi:Option AX)
 |sbytes (x:AX)
 |aslc (len esz:Nat) (x:AX) (lo hi:Option AX)
 |bad
structure Res where
 val:Option AV
 wr:List (Nat×A7)
def nid(d:Nat):Nat:=16*(d+1)
def T3:List AV->Nat->List AV->List AV
 |cs,0,p=>p++cs.drop p.length
 |c::cs,n+1,p=>c::T3 cs n p
 | [],_+1,p=>p
theorem B6v: ∀(cs:List AV) (n:Nat) (p:List AV),n<=cs.length->T3 cs n p=cs.take n++p++cs.drop (n+p.length)
 |cs,0,p,_=>by simp[T3]
 |c::cs,n+1,p,h=>by
  have:=B6v cs n p (by simpa using h);simp only[T3,this,List.take_succ_cons,List.cons_append]
  grind
 | [],n+1,p,h=>by simp at h
def Sq.app(s t:Sq):Sq:=⟨s.n+t.n,λi=>if i<s.n then s.g i else t.g (i-s.n)⟩
def Sq.set(s:Sq)(k:Nat)(c:List AV):Sq:=⟨s.n,λi=>if i=k then c else s.g i⟩
def C4u:Nat->List AV->Option (List AV)
 |0,_=>some []
 |n+1,c::cs=>(C4u n cs).map (c::·)
 |_+1,[]=>none
theorem C4v: ∀(n:Nat) (cs r:List AV),C4u n cs=some r->r=cs.take n/\n<=cs.length
 |0,cs,r,h=>by simp[C4u]at h;simp[h]
 |n+1,c::cs,r,h=>by simp only[C4u,zh]at h;obtain⟨r',h',rfl⟩:=h;obtain⟨rfl,hl⟩:=C4v n cs r' h';exact⟨rfl,by simpa using hl⟩
 |n+1,[],r,h=>by simp[C4u]at h
def B05:Option Nat->List AV->Option AV
 |none,c::_=>some c
 |none,[]=>none
 |some n,cs=>(C4u n cs).map .agg
def cellsOf(m:Nat->Option A7)(id k tot:Nat):Option (Prop×List AV):=
 match m id with
 |some (.box cs)=>some (k=0/\tot=1,cs)
 |some (.arr _ s)=>some (tot=s.n,s.g k)
 |some (.frz _ s)=>some (tot=s.n,s.g k)
 |some (.frzb cs)=>some (k=0/\tot=1,cs)
 |_=>none
mutual
def R5(m:Nat->Option A7):AV->Option (Prop×AV×List (Nat×A7))
 | .sl id off len tot=>match m id with
   |some (.arr z s)=>some (tot=s.n, .dsl z len (λi=>s.g (off+i)),[(id, .frz z s)])
   |some (.frz z s)=>some (tot=s.n, .dsl z len (λi=>s.g (off+i)),[])
   |_=>none
 | .ptr id k o tot=>match m id with
   |some (.box cs)=>if A2m cs then some (k=0/\tot=1, .dE (cs.drop o),[(id, .frzb cs)])else none
   |some (.frzb cs)=>some (k=0/\tot=1, .dE (cs.drop o),[])
   |_=>none
 | .fn f a b=>match A1b m a,A1b m b with
   |some (p,a',w),some (q,b',w')=>some (p/\q, .fn f a' b',w++w')
   |_,_=>none
 | .sc v=>some (True, .sc v,[])
 | .dsl z n g=>some (True, .dsl z n g,[])
 | .dslx z n g=>some (True, .dslx z n g,[])
 | .dE cs=>some (True, .dE cs,[])
 | .mp _=>none
 | .agg _=>none
 | .tup _=>none
 | .own .. =>none
 | .hole=>none
def A1b(m:Nat->Option A7):List AV->Option (Prop×List AV×List (Nat×A7))
 | []=>some (True,[],[])
 |c::cs=>match R5 m c,A1b m cs with
  |some (p,c',w),some (q,cs',w')=>some (p/\q,c'::cs',w++w')
  |_,_=>none
end
def A63(m:Nat->Option A7):Nat->AV->Option (Prop×Bool)
 |0, .sc (.slice a _ _)=>some (True,a.isNone)
 |0, .dsl _ n _=>some (0<n,false)
 |0, .dslx _ n _=>some (0<n,false)
 |0, .sl id _ _ tot=>match m id with
  |some (.arr _ s)=>some (0<tot/\tot=s.n,false)
  |some (.frz _ s)=>some (0<tot/\tot=s.n,false)
  |_=>none
 |1, .sc (.pointer a)=>some (True,a.isNone)
 |1, .ptr .. =>some (True,false)
 |1, .dE _=>some (True,false)
 |2, .sc (.map a)=>some (True,a.isNone)
 |2, .mp _=>some (True,false)
 |3, .sc .nilFunc=>some (True,true)
 |3, .fn .. =>some (True,false)
 |_,_=>none
def esL(e:AX->Option AV):List AX->Option (List AV)
 | []=>some []
 |x::xs=>match e x,esL e xs with
  |some v,some vs=>some (v::vs)
  |_,_=>none
def A0k(e:AX->Option AV):Option AX->Option (Option Int)
 |none=>some none
 |some x=>match e x with
  |some (.sc (.int _ j))=>some (some j)
  |_=>none
def Y2(m:Nat->Option A7)(esz:Nat):AV->Option (Prop×Sq)
 | .sc (.slice none 0 0)=>some (True,⟨0,λ_=> []⟩)
 | .sc (.slice (some _) 0 _)=>some (True,⟨0,λ_=> []⟩)
 | .dsl z n g=>if z=esz then some (True,⟨n,g⟩)else none
 | .dslx z n g=>if z=esz then some (True,⟨n,g⟩)else none
 | .sl id off len tot=>match m id with
   |some (.arr z s)=>if z=esz then some (tot=s.n,⟨len,λi=>s.g (off+i)⟩)else none
   |some (.frz z s)=>if z=esz then some (tot=s.n,⟨len,λi=>s.g (off+i)⟩)else none
   |_=>none
 |_=>none
def B93:BinOp->AV->AV->Option (Prop×AV)
 | .add, .sc (.int k a), .sc (.int k' b)=>if k=k' then some (True, .sc (.int k (k.wrap (a+b))))else none
 | .sub, .sc (.int k a), .sc (.int k' b)=>if k=k' then some (True, .sc (.int k (k.wrap (a-b))))else none
 | .mul, .sc (.int k a), .sc (.int k' b)=>if k=k' then some (True, .sc (.int k (k.wrap (a*b))))else none
 | .quo, .sc (.int k a), .sc (.int k' b)=>if k=k' then some (b≠0, .sc (.int k (k.wrap (a.tdiv b))))else none
 | .rem, .sc (.int k a), .sc (.int k' b)=>if k=k' then some (b≠0, .sc (.int k (a.tmod b)))else none
 | .and, .sc (.int k a), .sc (.int k' b)=>if k=k' then some (True, .sc (.int k (k.wrap (BitVec.ofInt k.bits a &&& BitVec.ofInt k.bits b).toNat)))else none
 | .or, .sc (.int k a), .sc (.int k' b)=>if k=k' then some (True, .sc (.int k (k.wrap (BitVec.ofInt k.bits a ||| BitVec.ofInt k.bits b).toNat)))else none
 | .xor, .sc (.int k a), .sc (.int k' b)=>if k=k' then some (True, .sc (.int k (k.wrap (BitVec.ofInt k.bits a ^^^ BitVec.ofInt k.bits b).toNat)))else none
 | .shl, .sc (.int k a), .sc (.int _ b)=>some (0<=b, .sc (.int k (k.wrap (a*2^(min b.toNat k.bits)))))
 | .shr, .sc (.int k a), .sc (.int _ b)=>some (0<=b, .sc (.int k (a.fdiv (2^(min b.toNat k.bits)))))
 | .eql, .sc (.int k a), .sc (.int k' b)=>if k=k' then some (True, .sc (.bool (a==b)))else none
 | .neq, .sc (.int k a), .sc (.int k' b)=>if k=k' then some (True, .sc (.bool (a != b)))else none
 | .lss, .sc (.int k a), .sc (.int k' b)=>if k=k' then some (True, .sc (.bool (decide (a<b))))else none
 | .leq, .sc (.int k a), .sc (.int k' b)=>if k=k' then some (True, .sc (.bool (decide (a<=b))))else none
 | .gtr, .sc (.int k a), .sc (.int k' b)=>if k=k' then some (True, .sc (.bool (decide (a>b))))else none
 | .geq, .sc (.int k a), .sc (.int k' b)=>if k=k' then some (True, .sc (.bool (decide (a>=b))))else none
 |_,_,_=>none
def E1i:UnOp->AV->Option AV
 | .not, .sc (.bool b)=>some (.sc (.bool !b))
 | .neg, .sc (.int k n)=>some (.sc (.int k (k.wrap (0-n))))
 | .xor, .sc (.int k n)=>some (.sc (.int k (k.wrap (BitVec.ofInt k.bits (if k.signed then -1 else k.max) ^^^ BitVec.ofInt k.bits n).toNat)))
 |_,_=>none
def B22:List Bool->List AV->List AV->Option Bool
 | [],[],[]=>some true
 |true::s, .sc (.int k a)::xs, .sc (.int k' b)::ys=>if k=k' then(B22 s xs ys).map λr=>(a==b)&&r else none
 |false::s, .sc (.bool a)::xs, .sc (.bool b)::ys=>(B22 s xs ys).map λr=>(a==b)&&r
 |_,_,_=>none
def A7q(e:AX->Option AV):List AV->List (Nat×Nat×AX)->Option (List AV)
 |cs,[]=>some cs
 |cs,(off,size,x)::r=>match e x with
  |some (.tup _)=>none
  |some v=>if v.cells.length=size/\off+size<=cs.length then A7q e (T3 cs off v.cells) r else none
  |none=>none
def B6w:Value->AV
 | .agg cs=> .agg (cs.toList.map .sc)
 |z=> .sc z
def B63:List (Int×AV)->Int->Option AV
 | [],_=>none
 |(z,v)::r,k=>if k==z then some v else B63 r k
def B5y:List AV->Option (List Int)
 | []=>some []
 | .sc (.int .i64 z)::cs=>(B5y cs).map (z::·)
 |_=>none
def A3f:List (List Int×AV)->List Int->Option AV
 | [],_=>none
 |(z,v)::r,k=>if k==z then some v else A3f r k
def A66:List (List Int×AV)->List Int->AV->List (List Int×AV)
 | [],k,v=> [(k,v)]
 |(z,u)::r,k,v=>if k==z then(z,v)::r else(z,u)::A66 r k v
def B3z:List (Int×AV)->Int->AV->List (Int×AV)
 | [],k,v=> [(k,v)]
 |(z,u)::r,k,v=>if k==z then(z,v)::r else(z,u)::B3z r k v
def B00(m:Nat->Option A7)(nd id k o tot z:Nat)(s:Sq)(n:Option Nat):List AV->Option (Prop×Res)
 | .own z' n' g'::_=>match n,m nd with
   |none,none=>some (tot=s.n/\o<z,⟨some (.sl nd 0 n' n'),[(id, .arrP z (s.set k (T3 (s.g k) o [.hole]))),(nd, .arr z' ⟨n',g'⟩)]⟩)
   |_,_=>none
 | .hole::_=>none
 |c::_=>match n with
  |none=>some (tot=s.n/\o<z,⟨some c,[]⟩)
  |some _=>none
 | []=>none
def C2u(m:Nat->Option A7)(id k o tot z:Nat)(s:Sq)(n:Nat):AV->Option (Prop×Res)
 | .sl id' off len tot'=>match m id' with
   |some (.arr z' s')=>if n=1/\id'≠id then some (tot=s.n/\o<z/\off=0/\len=s'.n/\tot'=s'.n,⟨none,[(id, .arrP z (s.set k (T3 (s.g k) o [.own z' s'.n s'.g]))),(id', .gone)]⟩)else none
   |_=>none
 |v=>if v.cells.all AV.pure=true/\v.cells.length=n then some (tot=s.n/\o+n<=z,⟨none,[(id, .arrP z (s.set k (T3 (s.g k) o v.cells)))]⟩)else none
def E63:List AV->UInt8
 | [.sc (.int _ k)]=>UInt8.ofNat k.toNat
 |_=>0
def E1f(t:Sq):ByteArray:=⟨((List.range t.n).map λi=>E63 (t.g i)).toArray⟩
def AV.offId(id:Nat):AV->Bool
 | .sl id' _ _ _=>id' != id
 |_=>true
def eval(op:AOp)(e:AX->Option AV)(m:Nat->Option A7)(d:Nat):Option (Prop×Res):=
 match op with
 | .mov x=>match e x with
   |some v=>some (True,⟨some v,[]⟩)
   |none=>none
 | .alloc zero=>match m (nid d)with
   |none=>some (True,⟨some (.ptr (nid d) 0 0 1),[(nid d, .box (zero.map .sc))]⟩)
   |some _=>none
 | .box x=>match m (nid d),e x with
   |none,some (.agg cs)=>some (True,⟨some (.ptr (nid d) 0 0 1),[(nid d, .box cs)]⟩)
   |none,some (.tup _)=>none
   |none,some v=>some (True,⟨some (.ptr (nid d) 0 0 1),[(nid d, .box [v])]⟩)
   |_,_=>none
 | .build zero E9=>match A7q e (zero.map .sc) E9 with
   |some cs=>some (True,⟨some (.agg cs),[]⟩)
   |none=>none
 | .bslice esz len zero E9=>match m (nid d),A7q e (zero.map .sc) E9 with
   |none,some cs=>match A1b m cs with
    |some (p,cs',w)=>some (p,⟨some (.sl (nid d) 0 len len),w++ [(nid d, .arr esz ⟨len,λi=>(cs'.drop (i*esz)).take esz⟩)]⟩)
    |none=>none
   |_,_=>none
 | .load n x=>match e x with
   |some (.dE cs)=>(B05 n cs).map λv=>(True,⟨some v,[]⟩)
   |some (.ptr id k o tot)=>match m id with
    |some (.arrP z s)=>B00 m (nid d) id k o tot z s n ((s.g k).drop o)
    |_=>match cellsOf m id k tot with
     |some (p,cs)=>(B05 n (cs.drop o)).map λv=>(p,⟨some v,[]⟩)
     |none=>none
   |_=>none
 | .store n x y=>match e x,e y with
   |some (.ptr id k o tot),some v=>match m id with
    |some (.arrP z s)=>C2u m id k o tot z s n v
    |some (.box cs)=>if v.cells.length=n/\o+n<=cs.length/\v.cells.all AV.one then some (k=0/\tot=1,⟨none,[(id, .box (T3 cs o v.cells))]⟩)else none
    |some (.arr z s)=>match A1b m v.cells with
     |some (p,cs',w)=>some (p/\tot=s.n/\cs'.length=n/\o+n<=z/\(w.all λx=>x.1 != id),⟨none,w++ [(id, .arr z (s.set k (T3 (s.g k) o cs')))]⟩)
     |none=>none
    |_=>none
   |_,_=>none
 | .bin op x y=>match e x,e y with
   |some a,some b=>(B93 op a b).map λ(p,v)=>(p,⟨some v,[]⟩)
   |_,_=>none
 | .eqa shape neg x y=>match e x,e y with
   |some (.agg xs),some (.agg ys)=>(B22 shape xs ys).map λb=>(True,⟨some (.sc (.bool (if neg then !b else b))),[]⟩)
   |_,_=>none
 | .un op x=>match e x with
   |some a=>(E1i op a).map λv=>(True,⟨some v,[]⟩)
   |none=>none
 | .convI k x=>match e x with
   |some (.sc (.int _ n))=>some (True,⟨some (.sc (.int k (k.wrap n))),[]⟩)
   |_=>none
 | .faddr off x=>match e x with
   |some (.dE cs)=>some (True,⟨some (.dE (cs.drop off)),[]⟩)
   |some (.ptr id i o tot)=>some (True,⟨some (.ptr id i (o+off) tot),[]⟩)
   |_=>none
 | .fld off n x=>match e x with
   |some (.agg cs)=>(B05 n (cs.drop off)).map λv=>(True,⟨some v,[]⟩)
   |_=>none
 | .iaddr esz x i=>match e x,e i with
   |some (.dsl z n g),some (.sc (.int _ j))=>if z=esz then some (0<=j/\j<n,⟨some (.dE (g j.toNat)),[]⟩)else none
   |some (.dslx z n g),some (.sc (.int _ j))=>if z=esz then some (0<=j/\j<n,⟨some (.dE (g j.toNat)),[]⟩)else none
   |some (.sl id off len tot),some (.sc (.int _ j))=>match m id with
    |some (.arr z s)=>if z=esz then some (tot=s.n/\0<=j/\j<len,⟨some (.ptr id (off+j.toNat) 0 tot),[]⟩)else none
    |some (.frz z s)=>if z=esz then some (tot=s.n/\0<=j/\j<len,⟨some (.ptr id (off+j.toNat) 0 tot),[]⟩)else none
    |some (.arrP z s)=>if z=esz then some (tot=s.n/\0<=j/\j<len,⟨some (.ptr id (off+j.toNat) 0 tot),[]⟩)else none
    |_=>none
   |_,_=>none
 | .aaddr len esz x i=>match e x,e i with
   |some (.dE cs),some (.sc (.int _ j))=>some (0<=j/\j<len,⟨some (.dE (cs.drop (j.toNat*esz))),[]⟩)
   |some (.ptr id k o tot),some (.sc (.int _ j))=>some (0<=j/\j<len,⟨some (.ptr id k (o+j.toNat*esz) tot),[]⟩)
   |_,_=>none
 | .len x=>match e x with
   |some (.dsl _ n _)=>some (True,⟨some (.sc (.int .i64 n)),[]⟩)
   |some (.dslx _ n _)=>some (True,⟨some (.sc (.int .i64 n)),[]⟩)
   |some (.sl _ _ n _)=>some (True,⟨some (.sc (.int .i64 n)),[]⟩)
   |some (.sc (.slice _ n _))=>some (True,⟨some (.sc (.int .i64 n)),[]⟩)
   |_=>none
 | .sidx x i=>match e x,e i with
   |some (.sc (.string s)),some (.sc (.int _ j))=>some (0<=j/\j.toNat<s.size,⟨some (.sc (.int .u8 ((s.data.getD j.toNat 0).toNat:Int))),[]⟩)
   |_,_=>none
 | .bstr x=>match e x with
   |some b=>match Y2 m 1 b with
    |some (p,t)=>some (p/\ ∀i,i<t.n-> ∃k,t.g i= [.sc (.int .u8 k)],⟨some (.sc (.string (E1f t))),[]⟩)
    |none=>none
   |none=>none
 | .cap0 x=>match e x with
   |some (.sc (.slice none 0 0))=>some (True,⟨some (.sc (.int .i64 0)),[]⟩)
   |_=>none
 | .appz esz bytes zero x n=>match m (nid d),e x,e n with
   |none,some (.sc (.slice none 0 0)),some (.sc (.int _ k))=>some (0<k/\k*bytes<=140737488355328/\k<=9223372036854775807,
     ⟨some (.sl (nid d) 0 k.toNat k.toNat),[(nid d, .arr esz ⟨k.toNat,λ_=>zero.map .sc⟩)]⟩)
   |_,_,_=>none
 | .aidx len x i=>match e x,e i with
   |some (.agg cs),some (.sc (.int _ j))=>some (0<=j/\j<len/\len<=cs.length,⟨some (cs.getD j.toNat .hole),[]⟩)
   |_,_=>none
 | .eqs neg x y=>match e x,e y with
   |some (.sc (.string a)),some (.sc (.string b))=>some (True,⟨some (.sc (.bool (if neg then !(a.toList==b.toList)else(a.toList==b.toList)))),[]⟩)
   |_,_=>none
 | .copy z' x y=>match e x,e y with
   |some (.sl id off n tot),some b=>match m id,Y2 m z' b with
    |some (.arr z s),some (p,t)=>if z=z'/\b.offId id=true then some (p/\tot=s.n,
      ⟨some (.sc (.int .i64 (min t.n n:Nat))),[(id, .arr z ⟨s.n,λi=>if off<=i/\i<off+min t.n n then t.g (i-off)else s.g i⟩)]⟩)else none
    |_,_=>none
   |_,_=>none
 | .clr z' zero x=>match e x with
   |some (.sl id off n tot)=>match m id with
    |some (.arr z s)=>if z=z'/\zero.length=z' then some (tot=s.n,⟨some (.tup []),[(id, .arr z ⟨s.n,λi=>if off<=i/\i<off+n then zero.map .sc else s.g i⟩)]⟩)else none
    |_=>none
   |_=>none
 | .eqb neg x y=>match e x,e y with
   |some (.sc (.bool a)),some (.sc (.bool b))=>some (True,⟨some (.sc (.bool (if neg then !(a==b)else(a==b)))),[]⟩)
   |_,_=>none
 | .isnil kd neg x=>match e x with
   |some a=>(A63 m kd a).map λ(p,b)=>(p,⟨some (.sc (.bool (if neg then !b else b))),[]⟩)
   |none=>none
 | .slice esz x lo hi mx=>match e x,A0k e lo,A0k e hi,A0k e mx with
   |some (.dsl z n g),some l,some h,some m=>if z=esz then(match m with
    |none=>some (0<=l.getD 0/\l.getD 0<=h.getD n/\h.getD n<=n,⟨some (.dsl z (h.getD n-l.getD 0).toNat (λi=>g ((l.getD 0).toNat+i))),[]⟩)
    |some k=>some (0<=l.getD 0/\l.getD 0<=h.getD n/\h.getD n<=n/\h.isSome/\k=h.getD n,⟨some (.dslx z (h.getD n-l.getD 0).toNat (λi=>g ((l.getD 0).toNat+i))),[]⟩))else none
   |some (.dslx z n g),some l,some h,some none=>if z=esz then
    some (0<=l.getD 0/\l.getD 0<=h.getD n/\h.getD n<=n,⟨some (.dsl z (h.getD n-l.getD 0).toNat (λi=>g ((l.getD 0).toNat+i))),[]⟩)else none
   |some (.sc (.slice none 0 0)),some l,some h,some none=>some (l.getD 0=0/\h.getD 0=0,⟨some (.sc (.slice none 0 0)),[]⟩)
   |some (.sl id off n tot),some l,some h,some none=>match m id with
    |some (.arr z s)=>if z=esz then some (tot=s.n/\0<=l.getD 0/\l.getD 0<=h.getD n/\h.getD n<=n,⟨some (.sl id (off+(l.getD 0).toNat) (h.getD n-l.getD 0).toNat tot),[]⟩)else none
    |some (.frz z s)=>if z=esz then some (tot=s.n/\0<=l.getD 0/\l.getD 0<=h.getD n/\h.getD n<=n,⟨some (.sl id (off+(l.getD 0).toNat) (h.getD n-l.getD 0).toNat tot),[]⟩)else none
    |_=>none
   |_,_,_,_=>none
 | .aslice len esz x=>match e x with
   |some (.dE cs)=>some (len*esz<=cs.length,⟨some (.dsl esz len (λi=>(cs.drop (i*esz)).take esz)),[]⟩)
   |some (.ptr id k o tot)=>match m id with
    |some (.box cs)=>if cs.all AV.pure then some (k=0/\tot=1/\o+len*esz<=cs.length,⟨some (.dsl esz len (λi=>(cs.drop (o+i*esz)).take esz)),[(id, .frzb cs)]⟩)else none
    |_=>none
   |_=>none
 | .sadd x y=>match e x,e y with
   |some (.sc (.string a)),some (.sc (.string b))=>some (a.size+b.size<=9223372036854775807,⟨some (.sc (.string (a++b))),[]⟩)
   |_,_=>none
 | .slen x=>match e x with
   |some (.sc (.string s))=>some (True,⟨some (.sc (.int .i64 s.size)),[]⟩)
   |_=>none
 | .sslice x lo hi=>match e x,A0k e lo,A0k e hi with
   |some (.sc (.string s)),some l,some h=>some (0<=l.getD 0/\l.getD 0<=h.getD s.size/\h.getD s.size<=s.size,⟨some (.sc (.string (s.extract (l.getD 0).toNat (h.getD s.size).toNat))),[]⟩)
   |_,_,_=>none
 | .sbytes x=>match e x with
   |some (.sc (.string s))=>some (True,⟨some (.dsl 1 s.size (λi=> [.sc (.int .u8 ((s.data.getD i 0).toNat:Int))])),[]⟩)
   |_=>none
 | .aslc len esz x lo hi=>match e x,A0k e lo,A0k e hi with
   |some (.dE cs),some l,some h=>some (0<=l.getD 0/\l.getD 0<=h.getD len/\h.getD len<=len/\len*esz<=cs.length,⟨some (.dsl esz (h.getD len-l.getD 0).toNat (λi=>(cs.drop (((l.getD 0).toNat+i)*esz)).take esz)),[]⟩)
   |some (.ptr id k o tot),some l,some h=>match m id with
    |some (.box cs)=>if cs.all AV.pure then some ((0<=l.getD 0/\l.getD 0<=h.getD len/\h.getD len<=len)/\k=0/\tot=1/\o+len*esz<=cs.length,
      ⟨some (.dsl esz (h.getD len-l.getD 0).toNat (λi=>(cs.drop (o+((l.getD 0).toNat+i)*esz)).take esz)),[(id, .frzb cs)]⟩)else none
    |_=>none
   |_,_,_=>none
 | .mlen x=>match e x with
   |some (.mp id)=>match m id with
    |some (.map _ es)=>some (True,⟨some (.sc (.int .i64 es.length)),[]⟩)
    |some (.mapS _ es)=>some (True,⟨some (.sc (.int .i64 es.length)),[]⟩)
    |_=>none
   |_=>none
 | .append esz bytes x y=>match e x,e y with
   |some (.sc (.slice none 0 0)),some b=>match m (nid d),Y2 m esz b with
    |none,some (p,t)=>some (p/\t.n*bytes<=140737488355328/\t.n<=maxLen,⟨some (.sl (nid d) 0 t.n t.n),[(nid d, .arr esz t)]⟩)
    |_,_=>none
   |some (.dslx z n g),some b=>match Y2 m esz b with
    |some (p,t)=>if z=esz then some (p/\(n+t.n)*bytes<=140737488355328/\n+t.n<=maxLen,⟨some (.dsl esz (n+t.n) (Sq.app ⟨n,g⟩ t).g),[]⟩)else none
    |none=>none
   |some (.sl id off n tot),some b=>match m id,Y2 m esz b with
    |some (.arr z s),some (p,t)=>if z=esz then some (p/\off=0/\n=s.n/\tot=s.n/\(s.n+t.n)*bytes<=140737488355328/\s.n+t.n<=maxLen,
      ⟨some (.sl id 0 (s.n+t.n) (s.n+t.n)),[(id, .arr z (s.app t))]⟩)else none
    |some (.arrP z s),some (p,t)=>if z=esz then some (p/\off=0/\n=s.n/\tot=s.n/\(s.n+t.n)*bytes<=140737488355328/\s.n+t.n<=maxLen,
      ⟨some (.sl id 0 (s.n+t.n) (s.n+t.n)),[(id, .arrP z (s.app t))]⟩)else none
    |_,_=>none
   |_,_=>none
 | .ext x i=>match e x with
   |some (.tup cs)=>match cs[i]? with
    |some v=>some (True,⟨some v,[]⟩)
    |none=>none
   |_=>none
 | .mkfn f first cap=>match esL e first,esL e cap with
   |some a,some b=>some (True,⟨some (.fn f a b),[]⟩)
   |_,_=>none
 | .nilck x=>match e x with
   |some (.ptr id k o tot)=>some (True,⟨some (.ptr id k o tot),[]⟩)
   |some (.dE cs)=>some (True,⟨some (.dE cs),[]⟩)
   |_=>none
 | .mkslice esz bytes zero n c=>match m (nid d),e n,e c with
   |none,some (.sc (.int _ l)),some (.sc (.int _ k))=>some (0<=l/\l<=k/\(bytes:Int)*k<=281474976710656/\k<=9223372036854775807,
     ⟨some (.sl (nid d) 0 l.toNat l.toNat),[(nid d, .arr esz ⟨l.toNat,λ_=>zero.map .sc⟩)]⟩)
   |_,_,_=>none
 | .minmax isMax x y=>match e x,e y with
   |some (.sc (.int k a)),some (.sc (.int _ b))=>some (True,⟨some (.sc (.int k (if isMax then(if b>a then b else a)else(if b<a then b else a)))),[]⟩)
   |_,_=>none
 | .mkmap k=>match m (nid d)with
   |none=>some (True,⟨some (.mp (nid d)),[(nid d, .map k [])]⟩)
   |some _=>none
 | .mkmapS n=>match m (nid d)with
   |none=>some (True,⟨some (.mp (nid d)),[(nid d, .mapS n [])]⟩)
   |some _=>none
 | .lookupS n zero ok x i=>match e x,e i with
   |some (.mp id),some (.agg cs)=>match m id,B5y cs with
    |some (.mapS n' es),some zs=>if n=n'/\zs.length=n then
      let v:=(A3f es zs).getD (B6w zero)
      some (True,⟨some (if ok then .tup [v, .sc (.bool (A3f es zs).isSome)]else v),[]⟩)else none
    |_,_=>none
   |_,_=>none
 | .msetS n x i y=>match e x,e i,e y with
   |some (.mp id),some (.agg cs),some v=>match m id,B5y cs with
    |some (.mapS n' es),some zs=>if n=n'/\zs.length=n/\v.flat then some (True,⟨none,[(id, .mapS n (A66 es zs v))]⟩)else none
    |_,_=>none
   |_,_,_=>none
 | .lookup k zero ok x i=>match e x,e i with
   |some (.mp id),some (.sc (.int k' z))=>match m id with
    |some (.map k'' es)=>if k=k'/\k=k'' then
      let v:=(B63 es z).getD (B6w zero)
      some (True,⟨some (if ok then .tup [v, .sc (.bool (B63 es z).isSome)]else v),[]⟩)else none
    |_=>none
   |_,_=>none
 | .mset k x i y=>match e x,e i,e y with
   |some (.mp id),some (.sc (.int k' z)),some v=>match m id with
    |some (.map k'' es)=>if k=k'/\k=k''/\v.flat then some (True,⟨none,[(id, .map k (B3z es z v))]⟩)else none
    |_=>none
   |_,_,_=>none
 |_=>none
def C1y:Value->Option AV
 | .agg cs=>if cs.all Value.oneCell' then some (.agg (cs.toList.map .sc))else none
 | .tuple _=>none
 |v=>some (.sc v)
def cx:Operand->Option AX
 | .tmp t=>some (.t t)
 | .const v=>(C1y v).map .k
 | .func f=>some (.k (.fn (.func f) [] []))
 | .global _=>none
def wrm(m:Nat->Option A7)(wr:List (Nat×A7)):Nat->Option A7:=wr.foldl (λm p=>upd m p.1 (some p.2)) m
section
variable {P:Program} {G:Nat->Prop} {w:World} {ob:Place} {m:Nat->Option A7}
def O0(G:Nat->Prop)(w:World)(ob:Place)(ρ:Operand->Value)(e:AX->Option AV):Prop:=∀x ax av,cx x=some ax->e ax=some av->Rel G w ob av (ρ x)
def E6(P:Program)(G:Nat->Prop)(w:World)(ob:Place)(m:Nat->Option A7)(s:Sem Next)(r:Res):Prop:=
 ∃G' w' ob' v,((s.run P w= .ok (.value v) w')\/(s.run P w= .ok .skip w'/\v=undef))/\E8 G' w' ob' (wrm m r.wr)/\
  (∀av,r.val=some av->Rel G' w' ob' av v)/\D4 ob ob'/\Fr G w ob G' w' ob'
theorem E6.quiet {s:Sem Next}(hs:E8 G w ob m)(h:s.run P w= .ok (.value v) w)(hr:Rel G w ob av v):E6 P G w ob m s ⟨some av,[]⟩:=⟨G,w,ob,v, .inl h,hs,λ_ e=>by injection e with e;exact e▸hr,D4.refl ob,Fr.refl G w ob⟩
theorem Fr.of_heap(hsz:w.heap.size<=w'.heap.size)(hsame: ∀b,b<w.heap.size->(G b\/ ¬P6 ob b)->w'.heap[b]? =w.heap[b]?)
  (hb: ∀b,P6 ob' b->P6 ob b\/w.heap.size<=b)(ho:w'.os=w.os)(ht:w'.tape=w.tape)(hu:w'.output=w.output)(hd:w.drawn<=w'.drawn:=by first |exact ze _ |exact Nat.le_succ _ |simp[World.drew]):Fr G w ob G w' ob':=
 ⟨hsz,hsame,hb,λ_ h=>h,λ_ h=> .inl h,ho,ht,hu,hd⟩
theorem E6.new {s:Sem Next}{id:Nat}{o:A7}{i:L4}{x:Obj}{w0:World}(hs:E8 G w ob m)(hid:m id=none)
  (hw0:w0.heap=w.heap)(hos:w0.os=w.os)(ht:w0.tape=w.tape)(hu:w0.output=w.output)
  (h:s.run P w= .ok (.value v) (w0.alloc x))(hb: ∀b,i.blk=some b->b=w.heap.size)
  (ho:P4 G (w0.alloc x) (upd ob id (some i)) i o)(hr:Rel G (w0.alloc x) (upd ob id (some i)) av v)(hP:o.isP=false:=by rfl)(hd:w.drawn<=w0.drawn:=by first |exact ze _ |exact Nat.le_succ _ |simp[World.drew]):E6 P G w ob m s ⟨some av,[(id,o)]⟩:=by
 have hsz:(w0.alloc x).heap.size=w.heap.size+1:=by simp[hw0]
 have hold: ∀b,b<w.heap.size->(w0.alloc x).heap[b]? =w.heap[b]? :=λb hb=>by rw[heap_alloc_old _ _ _ (by rw[hw0];exact hb),hw0]
 have hno:ob id=none:=(hs.dom id).1 hid;obtain⟨h1,h2,h3⟩:=hs.update (w':=w0.alloc x) id o i o_ (λb hb _=>hold b hb) (λj hj=>by rw[hno]at hj;cases hj)
  (λb hbb=> .inr (by rw[hb b hbb];exact ze _)) (λj hj=>by rw[hno]at hj;cases hj) ho (λ_ b hbb hG=>by have:=hs.lt b hG;rw[hb b hbb]at this;omega) (λo0 h0=>by rw[hid]at h0;cases h0) hP
 exact⟨G,w0.alloc x,_,v, .inl h,h1,λ_ e=>by injection e with e;exact e▸hr,h2,
  Fr.of_heap o_ (λb hb _=>hold b hb) h3 hos ht hu hd⟩
end
def R9(P:Program)(t:TypeId):Option Bool:=
 match P.underlying t with
 |some (.struct _) |some (.array _ _)=>some true
 |some _=>some false
 |none=>none
def Y8(P:Program)(t:TypeId):Option Nat:=(P.info? t).map (·.size)
section
variable {P:Program} {G:Nat->Prop} {w:World} {ob:Place} {m:Nat->Option A7}
variable {t:TypeId} {b:Bool}
theorem Z5(h:R9 P t=some b):(isAgg t).run P w= .ok b w:=by
 unfold R9 at h;unfold isAgg;cases hu:P.underlying t with
 |none=>simp[hu]at h
 |some d=>cases d <;> simp[hu]at h <;> subst h <;> simp[run_underlying hu]
variable {n:Nat}
theorem T9(h:Y8 P t=some n):(sizeOf t).run P w= .ok n w:=by unfold Y8 at h;rw[zh]at h;obtain⟨i,hi,rfl⟩:=h;simp[sizeOf,typeInfo,hi]
def B0k(G:Nat->Prop)(w:World)(ob:Place)(b off:Nat)(cs:List AV):Prop:=∀(j:Nat) (av:AV),cs[j]? =some av->av.one=true/\ ∃u,w.cell? ⟨b,off+j,none⟩=some u/\Rel G w ob av u
variable {cs:List AV}
theorem B0k.drop {b:Nat}(h:B0k G w ob b off cs)(n:Nat):B0k G w ob b (off+n) (cs.drop n):=λj av hj=>by rw[qU]at hj;have:=h (n+j) av hj;rwa[<-yx]at this
theorem B2o(h:av.pure=true):av.one=true:=by cases av <;> simp_all [AV.pure,AV.one]
variable {p:Prop} {tot:Nat}
theorem D6v {id o:Nat}(hs:E8 G w ob m)(hr:Rel G w ob (.ptr id k o tot) v)
  (hc:cellsOf m id k tot=some (p,cs))(hp:p): ∃b base,v= .pointer (some ⟨b,base+o,none⟩)/\B0k G w ob b base cs:=by
 unfold cellsOf at hc;cases hr with
 |ptr a i h hle hv=>
  cases hm:m id with
  |none=>simp[hm]at hc
  |some obj=>
   have ho:=hs.own id obj i hm h;rw[hm]at hc;cases obj with
   |box cs'=>cases hc;obtain⟨rfl,rfl⟩:=hp;obtain⟨_,h1,h2,b,arr,T,h3,h4,h5,h6⟩:=ho;obtain⟨b',h7,h8,_⟩:=hv h1;rw[h3]at h7;injection h7 with h7;subst h7;refine⟨b,0,by rw[h8];simp,λj av hj=> ?_⟩;obtain⟨ho,u,hu,hr⟩:=h6 j av hj;exact⟨ho,u,by rw[qk,cell_of_row w b j arr T _ h4];exact hu,hr⟩
   |arr z s=>
    cases hc;obtain⟨_,_,h1,h2,h3⟩:=ho;obtain⟨b',h7,h8,h9⟩:=hv (by rw[h1,hp]);rcases h3 with⟨h3,_⟩ |⟨b,arr,T,h3,h4,h5,h6⟩
    ·rw[h3]at h7;cases h7
    ·rw[h3]at h7;injection h7 with h7;subst h7;refine⟨b,k*i.esz,by rw[h8],λj av hj=> ?_⟩;obtain⟨hp,u,hu,hr⟩:=h6.2 k j av o_ hj;exact⟨B2o hp,u,by rw[cell_of_row w b _ arr T _ h4];exact hu,hr⟩
   |frz z s=>
    cases hc;obtain⟨_,_,h1,h2,h3⟩:=ho;obtain⟨b',h7,h8,h9⟩:=hv (by rw[h1,hp]);rcases h3 with⟨h3,_⟩ |⟨b,arr,T,fz,h3,_,h4,h6⟩
    ·rw[h3]at h7;cases h7
    ·rw[h3]at h7;injection h7 with h7;subst h7;refine⟨b,k*i.esz,by rw[h8],λj av hj=> ?_⟩;obtain⟨hp,u,hu,hr⟩:=h6.2 k j av o_ hj;exact⟨B2o hp,u,by rw[cell_of_row w b _ arr T _ h4];exact hu,hr⟩
   |frzb cs'=>cases hc;obtain⟨rfl,rfl⟩:=hp;obtain⟨_,h1,h2,b,arr,T,fz,h3,hg,h4,h5,h6⟩:=ho;obtain⟨b',h7,h8,_⟩:=hv h1;rw[h3]at h7;injection h7 with h7;subst h7;refine⟨b,0,by rw[h8];simp,λj av hj=> ?_⟩;obtain⟨ho,u,hu,hr⟩:=h6 j av hj;exact⟨B2o ho,u,by rw[qk,cell_of_row w b j arr T _ h4];exact hu,hr⟩
   |map k es=>simp at hc
   |mapS k es=>simp at hc
   |arrP z s=>simp at hc
   |gone=>simp at hc
theorem B7w(hr:Rel G w ob (.dE cs) v): ∃b off,v= .pointer (some ⟨b,off,none⟩)/\G b/\B0k G w ob b off cs:=by
 cases hr with
 |dE b off c hG hp hc hr=>
  refine⟨b,off,rfl,hG,λj av hj=>⟨B2o (hp j av hj),c j,hc j ?_,hr j av hj⟩⟩
  grind
theorem A2c(b o n:Nat):(⟨b,o,none⟩:Addr).add n=⟨b,o+n,none⟩:=by unfold Addr.add;split <;> simp_all
theorem A7r {n:Option Nat}{b:Nat}
  (ht:(match n with |none=>R9 P t=some false |some k=>R9 P t=some true/\Y8 P t=some k))
  (hc:B0k G w ob b off cs)(hk:B05 n cs=some av): ∃v,(loadVar t ⟨b,off,none⟩).run P w= .ok v w/\Rel G w ob av v:=by
 cases n with
 |none=>
  cases cs with
  |nil=>simp[B05]at hk
  |cons c cs=>simp only[B05,za]at hk;subst hk;obtain⟨_,u,hu,hr⟩:=hc 0 c p_;refine⟨u,?_,hr⟩;simp only[Nat.add_zero]at hu;simp[loadVar,Z5 ht,hu]
 |some k=>
  obtain⟨h1,h2⟩:=ht;simp only[B05,zh]at hk;obtain⟨r,hr,rfl⟩:=hk;obtain⟨rfl,hl⟩:=C4v k cs r hr;have hf: ∀j,j<k-> ∃u,w.cell? ⟨b,off+j,none⟩=some u/\ ∀av,cs[j]? =some av->av.one=true/\Rel G w ob av u:=λj hj=>by
   have hjl:j<cs.length:=o_
   obtain⟨h1,u,hu,h3⟩:=hc j cs[j] (zg hjl)
   grind
  let f:Nat->Value:=λj=>(w.cell? ⟨b,off+j,none⟩).getD undef
  have hrun:=run_loadCells (P:=P) w ⟨b,off,none⟩ k f (λj hj=>by rw[A2c];grind);refine⟨.agg ((List.range k).map f).toArray,?_,?_⟩
  ·simp[loadVar,Z5 h1,T9 h2,hrun]
  ·refine .agg _ (by simp;omega) (λj av hj=> ?_) (λj av hj=> ?_)
   all_goals
    have hjk:j<k:=by grind
    obtain⟨u,hu,h3⟩:=hf j hjk;have hj':cs[j]? =some av:=by grind
   ·exact(h3 av hj').1
   ·have:(((List.range k).map f).toArray).getD j undef=u:=by simp[hjk,f,hu]
    rw[this];exact(h3 av hj').2
theorem L4.has_priv {i:L4}{p:Nat->Prop}(hk:i.kind= .priv p)(b:Nat):i.has b↔i.blk=some b\/p b:=by unfold L4.has L4.pv;rw[hk]
structure PAt (G:Nat->Prop) (w:World) (ob:Place) (id z:Nat) (s:Sq) (i:L4) (p:Nat->Prop) (b:Nat) (arr:Array Value) (T:TypeId) (β:Nat->Nat->Option Nat):Prop where
 hi:ob id=some i
 kind:i.kind= .priv p
 esz:i.esz=z
 len:i.len=s.n
 cap:s.n<=i.cap
 blk:i.blk=some b
 heap:w.heap[b]? =some (.cells arr T (0,0))
 size:arr.size=i.cap*z
 row:A7y G w ob arr z s β
 bl:C1w b s.n z p β
theorem B81 {id o:Nat}(hs:E8 G w ob m)(hm:m id=some (.arrP z s))(hr:Rel G w ob (.ptr id k o tot) v)(ht:tot=s.n):
  ∃i p b arr T β,PAt G w ob id z s i p b arr T β/\v= .pointer (some ⟨b,k*z+o,none⟩)/\k<s.n:=by
 cases hr with
 |ptr a i h hle hv=>
  obtain⟨h00,h1,h2,p,hk,h3⟩:=hs.own id _ i hm h;obtain⟨b',h7,h8,h9⟩:=hv (by rw[h1,ht]);rcases h3 with⟨h3,_⟩ |⟨b,arr,T,β,h3,h4,h5,h6,h10⟩
  ·rw[h3]at h7;cases h7
  ·rw[h3]at h7;injection h7 with h7;subst h7;subst h00;exact⟨i,p,b,arr,T,β,⟨h,hk,rfl,h1,h2,h3,h4,h5,h6,h10⟩,by rw[h8],o_⟩
theorem getElem?_splice1 {o:Nat}{c:AV}(ho:o<cs.length)(j:Nat):(T3 cs o [c])[j]? =if j=o then some c else cs[j]? :=by
 rw[B6v _ _ _ o_,zx,qZ];simp only[zt,List.length_singleton];by_cases h1:j<o
 ·grind
 ·rw[zb o_,qZ]
  grind
variable {n':Nat} {u:Value}
theorem E8.moveOut {id nd o z':Nat}{g':Nat->List AV}{i:L4}{p:Nat->Prop}{b:Nat}{arr:Array Value}{T:TypeId}{β:Nat->Nat->Option Nat}
  (hs:E8 G w ob m)(hm:m id=some (.arrP z s))(hnd:m nd=none)(h:PAt G w ob id z s i p b arr T β)(hk:k<s.n)(hc:(s.g k)[o]? =some (.own z' n' g'))(hu:arr[k*z+o]? =some u):
  ∃ob',E8 G w ob' (upd (upd m id (some (.arrP z (s.set k (T3 (s.g k) o [.hole]))))) nd (some (.arr z' ⟨n',g'⟩)))/\Rel G w ob' (.sl nd 0 n' n') u/\D4 ob ob'/\ ∀b,P6 ob' b->P6 ob b:=by
 obtain rfl:i.esz=z:=h.esz;have hne:id≠nd:=λe=>by rw[e,hnd]at hm;cases hm
 have hno:ob nd=none:=(hs.dom nd).1 hnd
 have hlen:(s.g k).length=i.esz:=h.row.1 k hk
 have ho:o<(s.g k).length:=by grind
 obtain⟨u',hu',hcell⟩:=h.row.2 k o _ hk hc;rw[hu]at hu';injection hu' with hu';subst hu';have hcap: ∃cap',n'<=cap'/\(∀ob',D4 ob ob'->P4 G w ob' ⟨β k o,z',n',cap', .cells⟩ (.arr z' ⟨n',g'⟩))/\(∃a c,u= .slice a n' c)/\SlV ⟨β k o,z',n',cap', .cells⟩ 0 n' u:=by
  rcases hcell with⟨hβ,rfl,hv⟩ |⟨b2,cap',arr2,T2,hβ,h1,rfl,h2,h3,h4⟩
  ·refine⟨0,ze _,λob' hob=>⟨rfl,rfl,rfl,ze _, .inl ⟨hβ,rfl,rfl⟩⟩,?_,ze _,λ_=>hv,λb hb=> ?_⟩
   all_goals grind
  ·refine⟨cap',h1,λob' hob=>⟨rfl,rfl,rfl,h1, .inr ⟨b2,arr2,T2,hβ,h2,h3,h4.ext (λ_ h=>h) (λ_ _=>rfl) hob⟩⟩,⟨_,_,rfl⟩,p_,λhb=> ?_,λb' hb'=> ?_⟩
   all_goals grind
 obtain⟨cap',hc1,hc2,hc3,hc4⟩:=hcap;have hone:u.oneCell'=true:=by obtain⟨a,c,rfl⟩:=hc3;rfl
 have hi1: ∀x,({i with kind:= .priv λx=>p x/\β k o≠some x}:L4).has x↔i.blk=some x\/(p x/\β k o≠some x):=λx=>Iff.rfl
 have hp: ∀x,i.has x↔i.blk=some x\/p x:=λx=>L4.has_priv h.kind x
 have hi2: ∀x,(⟨β k o,z',n',cap', .cells⟩:L4).has x->β k o=some x:=λx hx=>L4.has_plain (.inl rfl) hx
 have hob:D4 ob (upd (upd ob id (some {i with kind:= .priv λx=>p x/\β k o≠some x})) nd (some ⟨β k o,z',n',cap', .cells⟩)):=λq j hj=>by
  by_cases hq:q=nd
  ·subst hq;rw[hno]at hj;cases hj
  ·rw[J0 hq];by_cases hq2:q=id
   ·subst hq2;rw[h.hi]at hj;injection hj with hj;subst hj;exact⟨_,by simp;rfl, .inr (.inl ⟨p,_,h.kind,rfl⟩)⟩
   ·exact⟨j,by rw[J0 hq2];exact hj, .inl rfl⟩
 obtain⟨a1,a2,a3⟩:=hs.update2 (w':=w) id nd hne (.arrP i.esz (s.set k (T3 (s.g k) o [.hole]))) (.arr z' ⟨n',g'⟩) {i with kind:= .priv λx=>p x/\β k o≠some x} ⟨β k o,z',n',cap', .cells⟩
  (ze _) (λ_ _ _ _=>rfl) (λ_ _=>rfl) (λj hj=>by rw[h.hi]at hj;injection hj with hj;subst hj;exact .inr (.inl ⟨p,_,h.kind,rfl⟩)) (λj hj=>by rw[hno]at hj;cases hj)
  (λx hx=> .inl ⟨i,h.hi,(hp x).2 (((hi1 x).1 hx).imp (λh=>h) (·.1))⟩) (λx hx=> .inl ⟨i,h.hi,(hp x).2 (.inr (h.bl.sub k o x hk o_ (hi2 x hx)))⟩)
  (λx h1 h2=>by
    have h2:=hi2 x h2;rcases(hi1 x).1 h1 with h1 |⟨_,h1⟩
    ·rw[h.blk]at h1;injection h1 with h1;subst h1;exact h.bl.ne (h.bl.sub k o _ hk o_ h2)
    ·exact h1 h2)
  (by
    refine⟨h.esz,h.len,h.cap,_,rfl, .inr ⟨b,arr,T,λq j=>if q=k/\j=o then none else β q j,h.blk,h.heap,h.size,?_,?_⟩⟩
    ·refine⟨λq hq=> ?_,λq j av hq hj=> ?_⟩
     ·simp only[Sq.set];split
      ·rw[<-hlen,B6v _ _ _ o_];simp;omega
      ·exact h.row.1 q hq
     ·simp only[Sq.set]at hj hq;split at hj
      ·rename_i hqk;subst hqk;rw[getElem?_splice1 ho]at hj;split at hj
       ·rename_i hjo;subst hjo;injection hj with hj;subst hj;exact⟨u,hu,hone,p_⟩
       ·rename_i hjo;obtain⟨v,hv,hcl⟩:=h.row.2 q j av hq hj;refine⟨v,hv,?_⟩;simp only[hjo,yg,zJ];exact hcl.ext (λ_ h=>h) (λ_ _=>rfl) hob (λ_ _=>rfl)
      ·rename_i hqk;obtain⟨v,hv,hcl⟩:=h.row.2 q j av hq hj;refine⟨v,hv,?_⟩;simp only[hqk,qJ,zJ];exact hcl.ext (λ_ h=>h) (λ_ _=>rfl) hob (λ_ _=>rfl)
    ·refine⟨λq j x hq hj hx=> ?_,λx hx=> ?_,λq j q' j' x hq hj hq' hj' hx hx'=> ?_,λhx=>h.bl.ne hx.1⟩
     ·split at hx
      ·cases hx
      ·rename_i hne2;exact⟨h.bl.sub q j x hq hj hx,λe=>hne2 (h.bl.inj q j k o x hq hj hk o_ hx e)⟩
     ·obtain⟨q,j,hq,hj,hx2⟩:=h.bl.all x hx.1;refine⟨q,j,hq,hj,?_⟩
      grind
     ·split at hx
      ·cases hx
      ·split at hx'
       ·cases hx'
       ·exact h.bl.inj q j q' j' x hq hj hq' hj' hx hx')
  (hc2 _ hob)
  (λhow x hx=>hs.sep id _ i x hm rfl h.hi ((hp x).2 (((hi1 x).1 hx).imp (λh=>h) (·.1))))
  (λhow x hx=>hs.sep id _ i x hm rfl h.hi ((hp x).2 (.inr (h.bl.sub k o x hk o_ (hi2 x hx)))))
 exact⟨_,a1, .sl _ p_ (ze _) hc3 λ_=>hc4,a2,a3⟩
variable {r:Res} {d:Nat} {ρx:Value}
theorem F06 {n:Option Nat}{id o:Nat}
  (ht:(match n with |none=>R9 P t=some false |some k=>R9 P t=some true/\Y8 P t=some k))
  (hs:E8 G w ob m)(hm:m id=some (.arrP z s))(hr:Rel G w ob (.ptr id k o tot) ρx)(hv:B00 m d id k o tot z s n ((s.g k).drop o)=some (p,r))(hp:p):
  E6 P G w ob m (do pure (.value (<-Instr.loadAt t ρx))) r:=by
 cases hd:(s.g k).drop o with
 |nil=>rw[hd]at hv;simp[B00]at hv
 |cons c cs=>
  rw[hd]at hv;have hget:(s.g k)[o]? =some c:=by have:=congrArg (·[0]?) hd;simpa[qU]using this
  have run: ∀(b:Nat) (arr:Array Value) (T:TypeId) (u:Value),n=none->w.heap[b]? =some (.cells arr T (0,0))->arr[k*z+o]? =some u->(loadVar t ⟨b,k*z+o,none⟩).run P w= .ok u w:=λb arr T u hn hh hu=>by
   subst hn;have:w.cell? ⟨b,k*z+o,none⟩=some u:=by rw[cell_of_row w b _ arr T _ hh];exact hu
   simp[loadVar,Z5 ht,this]
  by_cases hown: ∃z' n' g',c= .own z' n' g'
  ·obtain⟨z',n',g',rfl⟩:=hown;simp only[B00]at hv;split at hv
   case h_2=>cases hv
   rename_i hn hnd;cases hv;obtain⟨ht',_⟩:=hp;obtain⟨i,pp,b,arr,T,β,hA,rfl,hk⟩:=B81 hs hm hr ht';obtain⟨u,hu,_⟩:=hA.row.2 k o _ hk hget;obtain⟨ob',b1,b2,b3,b4⟩:=hs.moveOut hm hnd hA hk hget hu;refine⟨G,w,ob',u, .inl ?_,b1,λav hav=> ?_,b3,Fr.of_heap (ze _) (λ_ _ _=>rfl) (λb hb=> .inl (b4 b hb)) rfl rfl rfl⟩
   ·simp[Instr.loadAt,Instr.sureAddr,run b arr T u rfl hA.heap hu]
   grind
  ·have h2:c≠ .hole/\n=none/\p=(tot=s.n/\o<z)/\r=⟨some c,[]⟩:=by
    cases c with
    |own z' n' g'=>exact absurd ⟨z',n',g',rfl⟩ hown
    |hole=>simp[B00]at hv
    |_=>
     simp only[B00]at hv;split at hv
     ·simp only[za,zq]at hv;exact⟨p_,rfl,hv.1.symm,hv.2.symm⟩
     ·cases hv
   obtain⟨hne,rfl,rfl,rfl⟩:=h2;obtain⟨ht',_⟩:=hp;obtain⟨i,pp,b,arr,T,β,hA,rfl,hk⟩:=B81 hs hm hr ht';obtain⟨u,hu,hcell⟩:=hA.row.2 k o _ hk hget;have hrel:Rel G w ob c u:=by
    cases c with
    |own z' n' g'=>exact absurd ⟨z',n',g',rfl⟩ hown
    |hole=>exact absurd rfl hne
    |_=>exact hcell.2.2
   refine E6.quiet hs (v:=u) ?_ hrel;simp[Instr.loadAt,Instr.sureAddr,run b arr T u rfl hA.heap hu]
theorem E5x {n:Option Nat}{v:AV}{id o:Nat}
  (hs:E8 G w ob m)(hm:m id=some (.arrP z s))(hr:Rel G w ob (.ptr id k o tot) ρx)(hv:B00 m d id k o tot z s n ((s.g k).drop o)=some (p,⟨some v,[]⟩))(hp:p):
  n=none/\ ∃b off u,ρx= .pointer (some ⟨b,off,none⟩)/\w.cell? ⟨b,off,none⟩=some u/\Rel G w ob v u:=by
 cases hd:(s.g k).drop o with
 |nil=>rw[hd]at hv;simp[B00]at hv
 |cons c cs=>
  rw[hd]at hv;have hget:(s.g k)[o]? =some c:=by have:=congrArg (·[0]?) hd;simpa[qU]using this
  have h2:(∀z' n' g',c≠ .own z' n' g')/\c≠ .hole/\n=none/\p=(tot=s.n/\o<z)/\v=c:=by
   cases c with
   |own z' n' g'=>simp only[B00]at hv;split at hv <;> simp at hv
   |hole=>simp[B00]at hv
   |_=>
    simp only[B00]at hv;split at hv
    ·simp only[za,zq,Res.mk.injEq]at hv;exact⟨p_,p_,rfl,hv.1.symm,hv.2.1.symm⟩
    ·cases hv
  obtain⟨hno,hne,rfl,rfl,rfl⟩:=h2;obtain⟨ht',_⟩:=hp;obtain⟨i,pp,b,arr,T,β,hA,rfl,hk⟩:=B81 hs hm hr ht';obtain⟨u,hu,hcell⟩:=hA.row.2 k o _ hk hget;refine⟨rfl,b,_,u,rfl,by rw[cell_of_row w b _ arr T _ hA.heap];exact hu,?_⟩;cases v with
  |own z' n' g'=>exact absurd rfl (hno z' n' g')
  |hole=>exact absurd rfl hne
  |_=>exact hcell.2.2
variable {ρ:Operand->Value} {x:Operand} {ax:AX}
theorem F33 {n:Option Nat}{e:AX->Option AV}
  (ht:(match n with |none=>R9 P t=some false |some k=>R9 P t=some true/\Y8 P t=some k))
  (hs:E8 G w ob m)(hx:cx x=some ax)(he:O0 G w ob ρ e)(hv:eval (.load n ax) e m d=some (p,r))(hp:p):
  E6 P G w ob m (do pure (.value (<-Instr.loadAt t (ρ x)))) r:=by
 simp only[eval]at hv;cases hax:e ax with
 |none=>simp[hax]at hv
 |some a=>
  have hr:=he x ax a hx hax;rw[hax]at hv;cases a with
  |dE cs=>simp only[zh,zq]at hv;obtain⟨av,hk,_,rfl⟩:=hv;obtain⟨b,off,hvv,_,hc⟩:=B7w hr;obtain⟨v,hrun,hrel⟩:=A7r (P:=P) ht hc hk;refine E6.quiet hs (v:=v) ?_ hrel;simp[Instr.loadAt,hvv,Instr.sureAddr,hrun]
  |ptr id k o tot=>
   simp only at hv;have hcases:(∃z s,m id=some (.arrP z s))\/(∀z s,m id≠some (.arrP z s)):=by grind
   rcases hcases with⟨z,s,hm⟩ |hnm
   ·rw[hm]at hv;exact F06 ht hs hm hr hv hp
   replace hv:(match cellsOf m id k tot with
    |some (p,cs)=>(B05 n (cs.drop o)).map λv=>(p,(⟨some v,[]⟩:Res))
    |none=>none)=some (p,r):=by
    grind
   cases hco:cellsOf m id k tot with
   |none=>simp[hco]at hv
   |some pc=>obtain⟨p',cs⟩:=pc;simp only[hco,zh,zq]at hv;obtain⟨av,hk,rfl,rfl⟩:=hv;obtain⟨b,base,hvv,hc⟩:=D6v hs hr hco hp;obtain⟨v,hrun,hrel⟩:=A7r (P:=P) ht (hc.drop o) hk;refine E6.quiet hs (v:=v) ?_ hrel;simp[Instr.loadAt,hvv,Instr.sureAddr,hrun]
  |_=>simp at hv
theorem E8g {e:AX->Option AV}
  (hs:E8 G w ob m)(hx:cx x=some ax)(he:O0 G w ob ρ e)(hv:eval (.mov ax) e m d=some (p,r)):
  E6 P G w ob m (pure (.value (ρ x))) r:=by
 simp only[eval]at hv;cases hax:e ax with
 |none=>simp[hax]at hv
 |some a=>simp only[hax,za,zq]at hv;obtain⟨_,rfl⟩:=hv;exact E6.quiet hs p_ (he x ax a hx hax)
theorem Rel.sc_eq(h:Rel G w ob (.sc u) v):v=u:=by cases h;rfl
variable {op:BinOp}
theorem E9t {a b:AV}{x y:Value}(t:TypeId)(h:B93 op a b=some (p,av))(hp:p)(ha:Rel G w ob a x)(hb:Rel G w ob b y):
  ∃v,(binOp op t x y).run P w= .ok v w/\Rel G w ob av v/\(∃k n k' n',x= .int k n/\y= .int k' n'):=by
 cases a with
 |sc u=>
  cases b with
  |sc u'=>
   obtain rfl:=ha.sc_eq;obtain rfl:=hb.sc_eq;cases x with
   |int k n=>
    cases y with
    |int k' n'=>
     cases op <;> simp only[B93]at h <;> try(simp at h;done)
     all_goals first
      |(cases h
        have h0: ¬n'<0:=o_
        refine⟨_,?_, .sc rfl,_,_,_,_,rfl,rfl⟩;simp[binOp,Op.shift,h0];done)
      |(by_cases hk:k=k'
        ·subst hk;simp only[zL,za,zq]at h;obtain⟨rfl,rfl⟩:=h;refine⟨_,?_, .sc rfl,_,_,_,_,rfl,rfl⟩
         first
          |(simp[binOp,Op.intArith];done)
          |(simp[binOp,Op.intCmp];done)
          |(simp[binOp,Op.intBits];done)
          |(have hq:=hp;simp[binOp,Op.intDiv,hq];done)
        ·simp[hk]at h)
    |_=>cases op <;> simp[B93]at h
   |_=>cases op <;> simp[B93]at h
  |_=>cases op <;> simp[B93]at h
 |_=>cases op <;> simp[B93]at h
theorem F5e {op:UnOp}{a:AV}{x:Value}(h:E1i op a=some av)(ha:Rel G w ob a x):
  ∃v,(Op.unary op x).run P w= .ok v w/\Rel G w ob av v:=by
 cases a with
 |sc u=>
  obtain rfl:=ha.sc_eq;cases op <;> cases x <;> simp only[E1i]at h <;> try(simp at h;done)
  all_goals
   cases h;exact⟨_,by simp[Op.unary,Op.intArith,Op.intBits], .sc rfl⟩
 |_=>cases op <;> simp[E1i]at h
end
section
variable {P:Program} {G:Nat->Prop} {w:World} {ob:Place} {m:Nat->Option A7}
variable {p:Prop} {r:Res} {d:Nat} {ρ:Operand->Value} {x:Operand} {ax:AX}
theorem F8p {op:UnOp}{e:AX->Option AV}
  (hs:E8 G w ob m)(hx:cx x=some ax)(he:O0 G w ob ρ e)(hv:eval (.un op ax) e m d=some (p,r)):
  E6 P G w ob m (do pure (.value (<-Op.unary op (ρ x)))) r:=by
 simp only[eval]at hv;cases hax:e ax with
 |none=>simp[hax]at hv
 |some a=>simp only[hax,zh,zq]at hv;obtain⟨av,hk,_,rfl⟩:=hv;obtain⟨v,hrun,hrel⟩:=F5e (P:=P) hk (he x ax a hx hax);exact E6.quiet hs (v:=v) (by simp[hrun]) hrel
variable {t:TypeId} {y:Operand} {ay:AX} {op:BinOp}
theorem F65 {e:AX->Option AV}
  (hs:E8 G w ob m)(hx:cx x=some ax)(hy:cx y=some ay)(he:O0 G w ob ρ e)(hv:eval (.bin op ax ay) e m d=some (p,r))(hp:p):
  E6 P G w ob m (do pure (.value (<-(do eqGuard op t x y (ρ x) (ρ y);binOp op t (ρ x) (ρ y))))) r:=by
 simp only[eval]at hv;cases hax:e ax with
 |none=>simp[hax]at hv
 |some a=>
  cases hay:e ay with
  |none=>simp[hax,hay]at hv
  |some b=>
   simp only[hax,hay,zh,zq]at hv;obtain⟨⟨p',av⟩,hk,rfl,rfl⟩:=hv;obtain⟨v,hrun,hrel,k,n,k',n',h1,h2⟩:=E9t (P:=P) t hk hp (he x ax a hx hax) (he y ay b hy hay);refine E6.quiet hs (v:=v) ?_ hrel;have hg:(eqGuard op t x y (ρ x) (ρ y)).run P w= .ok () w:=by rw[h1,h2];unfold eqGuard;cases op <;> simp
   simp[hg,hrun]
variable {src dst:TypeId}
theorem F02 {k:IntKind}{e:AX->Option AV}
  (ht:P.underlying dst=some (.int k))(hsr: ∃ds,P.underlying src=some ds)
  (hs:E8 G w ob m)(hx:cx x=some ax)(he:O0 G w ob ρ e)(hv:eval (.convI k ax) e m d=some (p,r)):
  E6 P G w ob m (do pure (.value (<-convert src dst (ρ x)))) r:=by
 simp only[eval]at hv;obtain⟨ds,hds⟩:=hsr;cases hax:e ax with
 |none=>simp[hax]at hv
 |some a=>
  have hr:=he x ax a hx hax;rw[hax]at hv;cases a with
  |sc u=>
   cases u with
   |int k' n=>cases hv;rw[hr.sc_eq];refine E6.quiet hs (v:= .int k (k.wrap n)) ?_ (.sc rfl);simp[convert,run_underlying ht,run_underlying hds,Conv.intToInt]
   |_=>simp at hv
  |_=>simp at hv
variable {α:Type} {n:Nat} {l:List α} {j:Nat}
theorem getElem?_drop_lt {a:α}(h:(l.drop n)[j]? =some a):l[n+j]? =some a:=by rwa[qU]at h
theorem F03 {s:TypeId}{f:Nat}{fields:Array Field}{fd:Field}{e:AX->Option AV}
  (ht:P.underlying s=some (.struct fields))(hf:fields[f]? =some fd)(hoff:fd.offset=off)(hsz: ∃n,Y8 P fd.type=some (n+1))
  (hs:E8 G w ob m)(hx:cx x=some ax)(he:O0 G w ob ρ e)(hv:eval (.faddr off ax) e m d=some (p,r)):
  E6 P G w ob m (do pure (.value (<-Instr.fieldAt s (ρ x) f))) r:=by
 simp only[eval]at hv;obtain⟨n,hn⟩:=hsz;have key: ∀a:Addr,(Instr.fieldAt s (.pointer (some a)) f).run P w= .ok (.pointer (some (a.add off))) w:=λa=>by simp[Instr.fieldAt,run_underlying ht,hf,Instr.sureAddr,fieldPlace,T9 hn,hoff]
 cases hax:e ax with
 |none=>simp[hax]at hv
 |some a=>
  have hr:=he x ax a hx hax;rw[hax]at hv;cases a with
  |dE cs=>
   cases hv;generalize ρ x=v at hr;cases hr with
   |dE b o c hG hp hc hrr=>
    refine E6.quiet hs (v:= .pointer (some ⟨b,o+off,none⟩)) (by simp[key,A2c]) ?_;refine .dE b (o+off) (λj=>c (off+j)) hG (λj av hj=>hp _ av (getElem?_drop_lt hj)) (λj hj=> ?_) (λj av hj=>hrr _ av (getElem?_drop_lt hj))
    grind
  |ptr id k o tot=>
   cases hv;generalize ρ x=v at hr;cases hr with
   |ptr a i h hle hvv=>refine E6.quiet hs (v:= .pointer (some (a.add off))) (by simp[key]) ?_;refine .ptr _ i h hle λhl=> ?_;obtain⟨b,h1,rfl,h3⟩:=hvv hl;exact⟨b,h1,by rw[A2c,yx],h3⟩
  |_=>simp at hv
theorem B53(k:IntKind)(n:Int):(asIntOf (.int k n)).run P w= .ok (k,n) w:=rfl
variable {el:TypeId} {esz:Nat}
theorem F04 {e:AX->Option AV}
  (ht:P.underlying t=some (.slice el))(hz:Y8 P el=some esz)
  (hs:E8 G w ob m)(hx:cx x=some ax)(hy:cx y=some ay)(he:O0 G w ob ρ e)(hv:eval (.iaddr esz ax ay) e m d=some (p,r))(hp:p):
  E6 P G w ob m (do pure (.value (<-Instr.indexAt t (ρ x) (ρ y)))) r:=by
 have key: ∀(a:Addr) (len cap:Nat) (k:IntKind) (j:Int),0<=j->j<len->(Instr.indexAt t (.slice (some a) len cap) (.int k j)).run P w= .ok (.pointer (some (a.add (j.toNat*esz)))) w:=λa len cap k j h0 h1=>by simp[Instr.indexAt,B53,run_underlying ht,h0,h1,T9 hz]
 simp only[eval]at hv;cases hax:e ax with
 |none=>simp[hax]at hv
 |some a=>
  cases hay:e ay with
  |none=>cases a <;> simp[hax,hay]at hv
  |some b=>
   have hr:=he x ax a hx hax
   have hr2:=he y ay b hy hay;rw[hax,hay]at hv;cases b with
   |sc u=>
    cases u with
    |int k j=>
     rw[hr2.sc_eq];cases a with
     |dsl z n g=>
      simp only at hv;split at hv
      ·rename_i hze;subst hze;cases hv;obtain⟨h0,h1⟩:=hp;generalize ρ x=v at hr;cases hr with
       |dslNil=>exact absurd h1 o_
       |dslE a cap=>exact absurd h1 o_
       |dsl b off cap c hG hcap hlen hpp hc hrr=>
        have hj:j.toNat<n:=o_
        refine E6.quiet hs (v:= .pointer (some ⟨b,off+j.toNat*z,none⟩)) (by simp[key _ _ _ _ _ h0 h1,A2c]) ?_;refine .dE b _ (λq=>c j.toNat q) hG (λq av hq=>hpp _ q av hj hq) (λq hq=> ?_) (λq av hq=>hrr _ q av hj hq)
        grind
      ·simp at hv
     |dslx z n g=>
      simp only at hv;split at hv
      ·rename_i hze;subst hze;cases hv;obtain⟨h0,h1⟩:=hp;generalize ρ x=v at hr;cases hr with
       |dslxNil=>exact absurd h1 o_
       |dslxE a=>exact absurd h1 o_
       |dslx b off c hG hlen hpp hc hrr=>
        have hj:j.toNat<n:=o_
        refine E6.quiet hs (v:= .pointer (some ⟨b,off+j.toNat*z,none⟩)) (by simp[key _ _ _ _ _ h0 h1,A2c]) ?_;refine .dE b _ (λq=>c j.toNat q) hG (λq av hq=>hpp _ q av hj hq) (λq hq=> ?_) (λq av hq=>hrr _ q av hj hq)
        grind
      ·simp at hv
     |sl id off len tot=>
      have main: ∀(z:Nat) (s:Sq) (i:L4),z=esz->tot=s.n/\0<=j/\j<len->ob id=some i->i.esz=z->i.len=s.n->(i.blk=none->s.n=0)->Rel G w ob (.sl id off len tot) (ρ x)->
        E6 P G w ob m (do pure (.value (<-Instr.indexAt t (ρ x) (.int k j)))) ⟨some (.ptr id (off+j.toNat) 0 tot),[]⟩:=by
       intro z s i hze hc hi hiz hil hnb hr;obtain⟨ht',h0,h1⟩:=hc;generalize ρ x=v at hr;cases hr with
       |sl i' h' hle hs' hv'=>
        rw[hi]at h';injection h' with h';subst h';obtain⟨h2,_,h3⟩:=hv' (by rw[hil,ht']);cases h4:i.blk with
        |none=>have:=hnb h4;omega
        |some b=>
        obtain⟨o,c,rfl,_,h5,_⟩:=h3 b h4;obtain rfl:=h5 o_;refine E6.quiet hs (v:= .pointer (some ⟨b,off*i.esz+j.toNat*esz,none⟩)) (by simp[key _ _ _ _ _ h0 h1,A2c]) ?_;refine .ptr _ i hi hle λ_=>⟨b,h4,?_,o_⟩;rw[qa,hiz,hze,Nat.add_zero]
      simp only at hv;cases hm:m id with
      |none=>simp[hm]at hv
      |some obj=>
       rw[hm]at hv;cases hi:ob id with
       |none=>rw[(hs.dom id).2 hi]at hm;cases hm
       |some i=>
        have ho:=hs.own id obj i hm hi;cases obj with
        |arr z s=>
         simp only at hv;split at hv
         ·rename_i hze;cases hv;exact main z s i hze hp hi ho.2.1 ho.2.2.1 ho.arr_none hr
         ·simp at hv
        |arrP z s=>
         simp only at hv;split at hv
         ·rename_i hze;cases hv;refine main z s i hze hp hi ho.1 ho.2.1 (λhb=> ?_) hr;obtain⟨_,_,_,pp,_,h3⟩:=ho
          grind
         ·simp at hv
        |frz z s=>
         simp only at hv;split at hv
         ·rename_i hze;cases hv;exact main z s i hze hp hi ho.2.1 ho.2.2.1 ho.frz_none hr
         ·simp at hv
        |_=>simp at hv
     |_=>simp at hv
    |_=>cases a <;> simp at hv
   |_=>cases a <;> simp at hv
variable {i:Nat}
theorem F69 {e:AX->Option AV}
  (hs:E8 G w ob m)(hx:cx x=some ax)(he:O0 G w ob ρ e)(hv:eval (.ext ax i) e m d=some (p,r)):
  E6 P G w ob m (do pure (.value (<-Instr.extract (ρ x) i))) r:=by
 simp only[eval]at hv;cases hax:e ax with
 |none=>simp[hax]at hv
 |some a=>
  have hr:=he x ax a hx hax;rw[hax]at hv;cases a with
  |tup cs=>
   simp only at hv;cases hc:cs[i]? with
   |none=>simp[hc]at hv
   |some av=>
    simp only[hc,za,zq]at hv;obtain⟨_,rfl⟩:=hv;generalize ρ x=v at hr;cases hr with
    |tup vs hn hrr=>
     have hlt:i<vs.size:=by grind
     refine E6.quiet hs (v:=vs.getD i undef) ?_ (hrr i av hc);simp[Instr.extract,qh hlt]
  |_=>simp at hv
theorem C1s {a:AV}(h:Rel G w ob a v){n:Nat}
  (ha:(∃z g,a= .dsl z n g)\/(∃z g,a= .dslx z n g)\/(∃id off tot,a= .sl id off n tot)): ∃ad cap,v= .slice ad n cap:=by
 rcases ha with⟨z,g,rfl⟩ |⟨z,g,rfl⟩ |⟨id,off,tot,rfl⟩
 ·cases h with
  |dslNil=>exact⟨_,_,rfl⟩
  |dslE a cap=>exact⟨_,_,rfl⟩
  |dsl=>exact⟨_,_,rfl⟩
 ·cases h with
  |dslxNil=>exact⟨_,_,rfl⟩
  |dslxE a=>exact⟨_,_,rfl⟩
  |dslx=>exact⟨_,_,rfl⟩
 ·cases h with
  |sl i h hle hs hv=>omega
variable {ty:TypeId}
theorem F7b {cs:Array Bool}{e:AX->Option AV}
  (ht:P.underlying t=some (.slice el))
  (hs:E8 G w ob m)(hx:cx x=some ax)(he:O0 G w ob ρ e)(hv:eval (.len ax) e m d=some (p,r)):
  E6 P G w ob m (builtin .len #[t] ty cs #[ρ x]) r:=by
 have key: ∀ad n cap,(builtin .len #[t] ty cs #[.slice ad n cap]).run P w= .ok (.value (.int .i64 n)) w:=λad n cap=>by simp[builtin,Builtin.len_,run_underlying ht,goInt]
 simp only[eval]at hv;cases hax:e ax with
 |none=>simp[hax]at hv
 |some a=>
  have hr:=he x ax a hx hax;rw[hax]at hv;have fin: ∀n:Nat,r=⟨some (.sc (.int .i64 n)),[]⟩->(∃ad cap,ρ x= .slice ad n cap)->E6 P G w ob m (builtin .len #[t] ty cs #[ρ x]) r:=by rintro n rfl ⟨ad,cap,h⟩;rw[h];exact E6.quiet hs (key _ _ _) (.sc rfl)
  cases a with
  |dsl z n g=>simp only[za,zq]at hv;exact fin n hv.2.symm (C1s hr (.inl ⟨_,_,rfl⟩))
  |dslx z n g=>simp only[za,zq]at hv;exact fin n hv.2.symm (C1s hr (.inr (.inl ⟨_,_,rfl⟩)))
  |sl id off n tot=>simp only[za,zq]at hv;exact fin n hv.2.symm (C1s hr (.inr (.inr ⟨_,_,_,rfl⟩)))
  |sc u=>
   split at hv
   all_goals first
    |(rename_i heq;cases heq;done)
    |skip
   ·rename_i heq;simp only[za,AV.sc.injEq]at heq;subst heq;simp only[za,zq]at hv;exact fin _ hv.2.symm ⟨_,_,hr.sc_eq⟩
   ·cases hv
  |_=>simp at hv
theorem F35 {k:TypeId}{cs:Array Bool}{e:AX->Option AV}
  (ht:P.underlying t=some (.map k el))
  (hs:E8 G w ob m)(hx:cx x=some ax)(he:O0 G w ob ρ e)(hv:eval (.mlen ax) e m d=some (p,r)):
  E6 P G w ob m (builtin .len #[t] ty cs #[ρ x]) r:=by
 simp only[eval]at hv;cases hax:e ax with
 |none=>simp[hax]at hv
 |some a=>
  have hr:=he x ax a hx hax;rw[hax]at hv;cases a with
  |mp id=>
   simp only at hv;generalize ρ x=v at hr;cases hr with
   |mp b i h hb hm=>
    cases hmi:m id with
    |none=>simp[hmi]at hv
    |some obj=>
     have ho:=hs.own id obj i hmi h;rw[hmi]at hv;cases obj with
     |map k' es=>cases hv;obtain⟨_,b',ents,clock,h1,h2,h3,_⟩:=ho;rw[hb]at h1;injection h1 with h1;subst h1;refine E6.quiet hs (v:= .int .i64 es.length) ?_ (.sc rfl);simp[builtin,Builtin.len_,run_underlying ht,goInt,getObj,Sem.run,h2,h3]
     |mapS k' es=>cases hv;obtain⟨_,b',ents,clock,h1,h2,h3,_⟩:=ho;rw[hb]at h1;injection h1 with h1;subst h1;refine E6.quiet hs (v:= .int .i64 es.length) ?_ (.sc rfl);simp[builtin,Builtin.len_,run_underlying ht,goInt,getObj,Sem.run,h2,h3]
     |_=>simp at hv
  |_=>simp at hv
theorem F09 {e:AX->Option AV}{o:Oper}(hop:o.op= .nilCheck x)
  (hs:E8 G w ob m)(hx:cx x=some ax)(he:O0 G w ob ρ e)(hv:eval (.nilck ax) e m d=some (p,r)):
  E6 P G w ob m (execOp ρ o) r:=by
 simp only[eval]at hv;cases hax:e ax with
 |none=>simp[hax]at hv
 |some a=>
  have hr:=he x ax a hx hax;rw[hax]at hv;cases a with
  |dE cs=>cases hv;refine E6.quiet hs (v:=ρ x) ?_ hr;simp only[execOp,hop];generalize ρ x=v at hr;cases hr;rfl
  |ptr id k o tot=>cases hv;refine E6.quiet hs (v:=ρ x) ?_ hr;simp only[execOp,hop];generalize ρ x=v at hr;cases hr;rfl
  |_=>simp at hv
theorem D6s {isMax:Bool}{ts:Array TypeId}{cs:Array Bool}{e:AX->Option AV}
  (hs:E8 G w ob m)(hx:cx x=some ax)(hy:cx y=some ay)(he:O0 G w ob ρ e)(hv:eval (.minmax isMax ax ay) e m d=some (p,r)):
  E6 P G w ob m (builtin (if isMax then .max else .min) ts ty cs #[ρ x,ρ y]) r:=by
 simp only[eval]at hv;cases hax:e ax with
 |none=>simp[hax]at hv
 |some a=>
  cases hay:e ay with
  |none=>grind
  |some b=>
   have hr:=he x ax a hx hax
   have hr2:=he y ay b hy hay;rw[hax,hay]at hv;cases a with
   |sc u=>
    cases b with
    |sc u'=>
     rw[hr.sc_eq,hr2.sc_eq];cases u with
     |int k n=>
      cases u' with
      |int k' n'=>
       cases hv;cases isMax
       ·exact E6.quiet hs (v:= .int k (if n'<n then n' else n)) (by simp[builtin,Builtin.min_,Builtin.min2]) (.sc rfl)
       ·exact E6.quiet hs (v:= .int k (if n'>n then n' else n)) (by simp[builtin,Builtin.max_,Builtin.max2]) (.sc rfl)
      |_=>simp at hv
     |_=>simp at hv
    |_=>cases u <;> simp at hv
   |_=>simp at hv
theorem F7a {f:Nat}{n:Option Nat}{fields:Array Field}{fd:Field}{e:AX->Option AV}
  (ht:P.underlying t=some (.struct fields))(hf:fields[f]? =some fd)(hoff:fd.offset=off)
  (htn:(match n with |none=>R9 P fd.type=some false |some k=>R9 P fd.type=some true/\Y8 P fd.type=some k))
  (hs:E8 G w ob m)(hx:cx x=some ax)(he:O0 G w ob ρ e)(hv:eval (.fld off n ax) e m d=some (p,r)):
  E6 P G w ob m (do pure (.value (<-Instr.field t (ρ x) f))) r:=by
 simp only[eval]at hv;cases hax:e ax with
 |none=>simp[hax]at hv
 |some a=>
  have hr:=he x ax a hx hax;rw[hax]at hv;cases a with
  |agg cs=>
   simp only[zh,zq]at hv;obtain⟨av,hk,_,rfl⟩:=hv;generalize ρ x=v at hr;cases hr with
   |agg vs hn ho hrr=>
    cases n with
    |none=>
     cases hd:cs.drop off with
     |nil=>simp[hd,B05]at hk
     |cons c cs'=>
      simp only[hd,B05,za]at hk;subst hk;have hc:cs[off]? =some c:=by have:=getElem?_drop_lt (l:=cs) (n:=off) (j:=0) (a:=c) (by simp[hd]);simpa using this
      have hlt:off<vs.size:=by grind
      refine E6.quiet hs (v:=vs.getD off undef) ?_ (hrr off c hc);simp[Instr.field,run_underlying ht,hf,asAgg,part,Z5 htn,hoff,qh hlt]
    |some k=>
     obtain⟨h1,h2⟩:=htn;simp only[B05,zh]at hk;obtain⟨rr,hrr',rfl⟩:=hk;obtain⟨rfl,hl⟩:=C4v k _ rr hrr';rw[qn]at hl;refine E6.quiet hs (v:= .agg (vs.extract off (off+k))) ?_ ?_
     ·simp[Instr.field,run_underlying ht,hf,asAgg,part,Z5 h1,T9 h2,hoff]
     ·have hget: ∀(j:Nat) (av:AV),((cs.drop off).take k)[j]? =some av->j<k/\cs[off+j]? =some av:=λj av hj=>by
       grind
      refine .agg _ ?_ (λj av hj=>ho _ av (hget j av hj).2) (λj av hj=> ?_)
      ·grind
      ·obtain⟨hjk,hj'⟩:=hget j av hj;have:=hrr _ av hj'
       have e1:(vs.extract off (off+k)).getD j undef=vs.getD (off+j) undef:=by
        have hlt:off+j<cs.length:=o_
        have h3:j<min (off+k) vs.size-off:=o_
        simp_all
       rw[e1];exact this
  |_=>simp at hv
theorem B2c {z:Value}(h:(P.info? t).bind (·.zero)=some z):(zeroValue t).run P w= .ok z w:=by
 cases hi:P.info? t with
 |none=>simp[hi]at h
 |some i=>simp only[hi,Option.bind_some]at h;simp[zeroValue,typeInfo,hi,h]
variable {cs:List AV} {vs:Array Value}
theorem C92 {s:Sem Next}{id:Nat}{T:TypeId}(hs:E8 G w ob m)(hid:m id=none)
  (hn:vs.size=cs.length)(hone: ∀(j:Nat) (av:AV),cs[j]? =some av->av.one=true)(hrel: ∀(j:Nat) (av:AV),cs[j]? =some av->Rel G w ob av (vs.getD j undef))
  (h:s.run P w= .ok (.value (.pointer (some ⟨w.heap.size,0,none⟩))) (w.alloc (.cells vs T))):E6 P G w ob m s ⟨some (.ptr id 0 0 1),[(id, .box cs)]⟩:=by
 have hno:ob id=none:=(hs.dom id).1 hid
 have hext:D4 ob (upd ob id (some ⟨some w.heap.size,cs.length,1,1, .cells⟩)):=λx j hj=>by
  have hx:x≠id:=λe=>by subst e;rw[hno]at hj;cases hj
  exact⟨j,by rw[J0 hx];exact hj, .inl rfl⟩
 have hGw: ∀b,G b->(w.alloc (.cells vs T)).heap[b]? =w.heap[b]? :=λb hG=>heap_alloc_old _ _ _ (hs.lt b hG);refine E6.new (w0:=w) (i:=⟨some w.heap.size,cs.length,1,1, .cells⟩) hs hid rfl rfl rfl rfl h (λb hb=>by simpa using hb.symm) ?_ ?_
 ·refine⟨rfl,rfl,rfl,w.heap.size,vs,T,rfl,heap_alloc_new _ _,hn,λj av hj=>⟨hone j av hj,vs.getD j undef,?_,(hrel j av hj).ext (λ_ h=>h) hGw hext⟩⟩;have hlt:j<vs.size:=by
   grind
  simp[qh hlt]
 ·exact .ptr _ ⟨some w.heap.size,cs.length,1,1, .cells⟩ p_ (ze _) λ_=>⟨w.heap.size,rfl,p_,Nat.one_pos⟩
theorem F00 {z:Value}{e:AX->Option AV}
  (hz:(P.info? t).bind (·.zero)=some z)(hone:z.cells.all Value.oneCell'=true)
  (hs:E8 G w ob m)(hv:eval (.alloc z.cells.toList) e m d=some (p,r)):
  E6 P G w ob m (do pure (.value (<-Instr.alloc t true (.tuple #[])))) r:=by
 simp only[eval]at hv;cases hm:m (nid d)with
 |some o=>simp[hm]at hv
 |none=>
  simp only[hm,za,zq]at hv;obtain⟨_,rfl⟩:=hv;refine C92 (vs:=z.cells) (T:=t) hs hm p_ (λj av hj=> ?_) (λj av hj=> ?_) ?_
  ·rw[qA,zh]at hj;obtain⟨u,_,rfl⟩:=hj;rfl
  ·rw[qA,zh]at hj;obtain⟨u,hu,rfl⟩:=hj;have hu':z.cells[j]? =some u:=by simpa using hu
   have hd:z.cells.getD j undef=u:=by simp[hu']
   rw[hd];exact .sc (yh.1 hone u (yi hu'))
  ·simp[Instr.alloc,B2c hz,newVar,newRow]
theorem E66(h:Rel G w ob (.agg cs) v):v.cells.size=cs.length/\(∀(j:Nat) (av:AV),cs[j]? =some av->av.one=true)/\
  ∀(j:Nat) (av:AV),cs[j]? =some av->Rel G w ob av (v.cells.getD j undef):=by
 cases h with
 |agg vs hn ho hr=>exact⟨hn,ho,hr⟩
theorem E67 {a:AV}(h:Rel G w ob a v)(ho:a.one=true):v.cells= #[v]:=by have:=h.one_cell ho;cases v <;> simp_all [Value.cells,Value.oneCell']
theorem B59 {a:AV}(h:Rel G w ob a v)(ht: ∀l,a≠ .tup l):v.cells.size=a.cells.length/\(∀(j:Nat) (av:AV),a.cells[j]? =some av->av.one=true)/\
  ∀(j:Nat) (av:AV),a.cells[j]? =some av->Rel G w ob av (v.cells.getD j undef):=by
 by_cases ho:a.one=true
 ·have hc:a.cells= [a]:=by cases a <;> simp_all [AV.cells,AV.one]
  rw[E67 h ho,hc];refine⟨rfl,λj av hj=> ?_,λj av hj=> ?_⟩
  all_goals
   cases j with
   |zero=>simp_all
   |succ j=>simp at hj
 ·cases a with
  |agg cs=>exact E66 h
  |tup l=>exact absurd rfl (ht l)
  |_=>exact absurd rfl ho
theorem F66 {e:AX->Option AV}
  (hs:E8 G w ob m)(hx:cx x=some ax)(he:O0 G w ob ρ e)(hv:eval (.box ax) e m d=some (p,r)):
  E6 P G w ob m (do pure (.value (<-Instr.box t (ρ x)))) r:=by
 simp only[eval]at hv;cases hm:m (nid d)with
 |some o=>simp[hm]at hv
 |none=>
  cases hax:e ax with
  |none=>simp[hm,hax]at hv
  |some a=>
   have hr:=he x ax a hx hax;rw[hm,hax]at hv;have main:(∀l,a≠ .tup l)->r=⟨some (.ptr (nid d) 0 0 1),[(nid d, .box a.cells)]⟩->E6 P G w ob m (do pure (.value (<-Instr.box t (ρ x)))) r:=by rintro ht rfl;obtain⟨h1,h2,h3⟩:=B59 hr ht;exact C92 (vs:=(ρ x).cells) (T:=t) hs hm h1 h2 h3 (by simp[Instr.box,newVar,newRow])
   cases a with
   |agg cs=>simp only[za,zq]at hv;exact main (λ_ h=>by cases h) hv.2.symm
   |tup l=>simp at hv
   |_=>simp only[za,zq]at hv;exact main (λ_ h=>by cases h) hv.2.symm
end
section
variable {P:Program} {G:Nat->Prop} {w:World} {ob:Place} {m:Nat->Option A7}
def A33(G:Nat->Prop)(w:World)(ob:Place)(vs:Array Value)(cs:List AV):Prop:=vs.size=cs.length/\(∀(j:Nat) (av:AV),cs[j]? =some av->av.one=true)/\ ∀(j:Nat) (av:AV),cs[j]? =some av->Rel G w ob av (vs.getD j undef)
theorem C6h: ∀(l:List Value) (k off:Nat) (cs:Array Value) (q:Nat),
  (((l.zipIdx k).foldl (λ(cs:Array Value) (x:Value×Nat)=>cs.setIfInBounds (off+x.2) x.1) cs).size=cs.size)/\
  (((l.zipIdx k).foldl (λ(cs:Array Value) (x:Value×Nat)=>cs.setIfInBounds (off+x.2) x.1) cs)[q]? =
    if off+k<=q/\q<off+k+l.length/\q<cs.size then l[q-(off+k)]? else cs[q]?)
 | [],k,off,cs,q=>by refine⟨rfl,?_⟩;simp only[List.zipIdx_nil,List.foldl_nil,List.length_nil,Nat.add_zero];rw[zb o_]
 |v::l,k,off,cs,q=>by
  obtain⟨h1,h2⟩:=C6h l (k+1) off (cs.setIfInBounds (off+k) v) q;simp only[List.zipIdx_cons,List.foldl_cons]
  grind
theorem getElem?_splice(cs p:List AV)(n q:Nat)(h:n+p.length<=cs.length):
  (T3 cs n p)[q]? =if n<=q/\q<n+p.length then p[q-n]? else cs[q]? :=by
 rw[B6v _ _ _ o_];have hn:(cs.take n).length=n:=by simp;omega
 grind
theorem A82(cs p:List AV)(n:Nat)(h:n+p.length<=cs.length):(T3 cs n p).length=cs.length:=by rw[B6v _ _ _ o_];simp;omega
variable {j:Nat} {vs:Array Value}
theorem E3q(h:vs[j]? =some v):vs.getD j undef=v:=by simp[h]
variable {cs:List AV}
theorem A33.get(h:A33 G w ob vs cs){j:Nat}{av:AV}(hj:cs[j]? =some av): ∃v,vs[j]? =some v/\av.one=true/\Rel G w ob av v:=by
 have hlt:j<vs.size:=by rw[h.1];grind
 refine⟨vs[j],qh hlt,h.2.1 j av hj,?_⟩;have:=h.2.2 j av hj;simp_all
theorem A33.mk'(hn:vs.size=cs.length)(h: ∀(j:Nat) (av:AV),cs[j]? =some av-> ∃v,vs[j]? =some v/\av.one=true/\Rel G w ob av v):A33 G w ob vs cs:=⟨hn,λj av hj=>(h j av hj).choose_spec.2.1,λj av hj=>by obtain⟨v,h1,_,h3⟩:=h j av hj;rw[E3q h1];exact h3⟩
theorem D1e {e:AX->Option AV}{ρ:Operand->Value}(he:O0 G w ob ρ e){place:Nat->Option (Nat×Nat)}:
  ∀(E9:List (Nat×Operand)) (ps:List (Nat×Nat×AX)) (Z:Array Value) (cs cs':List AV),
   (E9.mapM λp=>match place p.1,cx p.2 with |some (o,s),some ax=>some (o,s,ax) |_,_=>none)=some ps->
   A33 G w ob Z cs->A7q e cs ps=some cs'-> ∃Z',Instr.fill place Z (E9.map λp=>(p.1,ρ p.2))=some Z'/\A33 G w ob Z' cs'
 | [],ps,Z,cs,cs',hp,hz,hf=>by simp at hp;subst hp;simp only[A7q,za]at hf;subst hf;exact⟨Z,rfl,hz⟩
 |(i,x)::E9,ps,Z,cs,cs',hp,hz,hf=>by
  simp only[List.mapM_cons,Option.bind_eq_bind,Option.pure_def]at hp;cases hpl:place i with
  |none=>simp[hpl]at hp
  |some os=>
   obtain⟨o,s⟩:=os;cases hcx:cx x with
   |none=>simp[hpl,hcx]at hp
   |some ax=>
    simp only[hpl,hcx,Option.bind_some]at hp;rw[Option.bind_eq_some_iff]at hp;obtain⟨ps',hp',hps⟩:=hp;cases hps;simp only[A7q]at hf;cases hax:e ax with
    |none=>simp[hax]at hf
    |some a=>
     have hr:=he x ax a hcx hax
     have hnt: ∀l,a≠ .tup l:=λl h=>by subst h;simp[hax]at hf
     have hf':(if a.cells.length=s/\o+s<=cs.length then A7q e (T3 cs o a.cells) ps' else none)=some cs':=by grind
     split at hf'
     ·rename_i hc;obtain⟨hc1,hc2⟩:=hc;obtain⟨h1,h2,h3⟩:=B59 hr hnt;have hv:A33 G w ob (ρ x).cells a.cells:=⟨h1,h2,h3⟩
      have hzs:=hz.1
      have hfs:=λq=>C6h (ρ x).cells.toList 0 o Z q
      have hz':A33 G w ob ((ρ x).cells.zipIdx.foldl (λ(cs:Array Value) (x:Value×Nat)=>cs.setIfInBounds (o+x.2) x.1) Z) (T3 cs o a.cells):=by
       rw[<-Array.foldl_toList,Array.toList_zipIdx];refine A33.mk' ?_ λj av hj=> ?_
       ·rw[(hfs 0).1,A82 _ _ _ o_];exact hz.1
       ·rw[(hfs j).2];rw[getElem?_splice _ _ _ _ o_]at hj;simp only[Nat.add_zero,Array.length_toList]at hj⊢;split at hj
        ·rename_i hq;rw[zc ⟨hq.1,o_,o_⟩];obtain⟨v,h4,h5,h6⟩:=hv.get hj;exact⟨v,by simpa using h4,h5,h6⟩
        ·rename_i hq;rw[zb o_];exact hz.get hj
      obtain⟨Z',h4,h5⟩:=D1e he E9 ps' _ _ cs' hp' hz' hf';refine⟨Z',?_,h5⟩;simp only[qw,Instr.fill,hpl]
      grind
     ·cases hf'
theorem F14 {z:Value}(hone:z.cells.all Value.oneCell'=true):A33 G w ob z.cells (z.cells.toList.map .sc):=by
 refine A33.mk' p_ λj av hj=> ?_;rw[qA,zh]at hj;obtain⟨u,hu,rfl⟩:=hj;have hu':z.cells[j]? =some u:=by simpa using hu
 exact⟨u,hu',rfl, .sc (yh.1 hone u (yi hu'))⟩
theorem D4s {Z:Array Value}(hone:Z.all Value.oneCell'=true):A33 G w ob Z (Z.toList.map .sc):=by
 refine A33.mk' p_ λj av hj=> ?_;rw[qA,zh]at hj;obtain⟨u,hu,rfl⟩:=hj;have hu':Z[j]? =some u:=by simpa using hu
 exact⟨u,hu',rfl, .sc (yh.1 hone u (yi hu'))⟩
def C3w(P:Program)(t:TypeId):Option (Nat->Option (Nat×Nat)):=
 match P.underlying t with
 |some (.struct fields)=>match fields.toList.mapM (λf=>(P.info? f.type).map λi=>(f.offset,i.size))with
  |some places=>some (places.toArray[·]?)
  |none=>none
 |some (.array _ e)=>match P.info? e with
  |some ie=>some (λi=>some (i*ie.size,ie.size))
  |none=>none
 |_=>none
variable {p:Prop} {t:TypeId} {r:Res} {d:Nat} {ρ:Operand->Value}
theorem F01 {z:Value}{place:Nat->Option (Nat×Nat)}{E9:Array (Nat×Operand)}{ps:List (Nat×Nat×AX)}{e:AX->Option AV}
  (hz:(P.info? t).bind (·.zero)=some z)(hone:z.cells.all Value.oneCell'=true)(hpl:C3w P t=some place)
  (hps:(E9.toList.mapM λp=>match place p.1,cx p.2 with |some (o,s),some ax=>some (o,s,ax) |_,_=>none)=some ps)
  (hs:E8 G w ob m)(he:O0 G w ob ρ e)(hv:eval (.build z.cells.toList ps) e m d=some (p,r)):
  E6 P G w ob m (do pure (.value (<-Instr.build t (E9.map λ(i,x)=>(i,ρ x))))) r:=by
 simp only[eval]at hv;cases hf:A7q e (z.cells.toList.map .sc) ps with
 |none=>simp[hf]at hv
 |some cs=>
  simp only[hf,za,zq]at hv;obtain⟨_,rfl⟩:=hv;obtain⟨Z',h1,h2⟩:=D1e he E9.toList ps z.cells _ cs hps (F14 hone) hf;cases hi:P.info? t with
  |none=>simp[hi]at hz
  |some it=>
   simp only[hi,Option.bind_some]at hz;have hb:P.built t (E9.map λ(x:Nat×Operand)=>(x.1,ρ x.2)).toList=some Z':=by
    rw[Array.toList_map];unfold Program.built;unfold C3w at hpl
    grind
   refine E6.quiet hs (v:= .agg Z') ?_ (.agg Z' h2.1 h2.2.1 h2.2.2);have:=run_build (P:=P) w t (E9.map λ(x:Nat×Operand)=>(x.1,ρ x.2)) Z' hb;simp[this]
theorem E8.freeze(hs:E8 G w ob m){id z:Nat}{s:Sq}(hm:m id=some (.arr z s)):
  ∃G',E8 G' w ob (upd m id (some (.frz z s)))/\(∀b,G b->G' b)/\(∀b,G' b->G b\/P6 ob b)/\
   (∀i b,ob id=some i->i.blk=some b->G' b):=by
 cases hi:ob id with
 |none=>rw[(hs.dom id).2 hi]at hm;cases hm
 |some i=>
  have ho:=hs.own id _ i hm hi;refine⟨λb=>G b\/i.blk=some b,⟨?_,hs.inj,?_,?_,?_⟩,λb h=> .inl h,λb h=>h.imp (λh=>h) (λh=>⟨id,i,hi, .inl h⟩),λj b hj hb=> ?_⟩
  ·intro x;by_cases hx:x=id
   ·subst hx;simp[hi]
   ·rw[J0 hx];exact hs.dom x
  ·rintro b (h |h)
   ·exact hs.lt b h
   ·exact ho.blk_lt h
  ·intro x o j hx hj;by_cases hxe:x=id
   ·subst hxe;simp only[A03,za]at hx;subst hx;rw[hi]at hj;injection hj with hj;subst hj;obtain⟨h1,h2,h3,h4,h5⟩:=ho;refine⟨h1,h2,h3,h4,?_⟩;rcases h5 with h5 |⟨b,arr,T,h6,h7,h8,h9⟩
    ·exact .inl h5
    ·exact .inr ⟨b,arr,T,(0,0),h6, .inr h6,h7,h9.ext (λ_ h=> .inl h) (λ_ _=>rfl) (D4.refl ob)⟩
   ·rw[J0 hxe]at hx;exact(hs.own x o j hx hj).ext (λ_ h=> .inl h) (λ_ _=>rfl) (D4.refl ob) (λ_ _=>rfl)
  ·intro x o j b hx hown hj hb;by_cases hxe:x=id
   ·subst hxe;simp only[A03,za]at hx;subst hx;simp[A7.owned]at hown
   ·rw[J0 hxe]at hx;rintro(h |h)
    ·exact hs.sep x o j b hx hown hj hb h
    ·exact hxe (hs.inj _ _ _ _ b hj hi hb (.inl h))
  grind
end
section
variable {P:Program} {G:Nat->Prop} {w:World} {ob:Place} {m:Nat->Option A7}
theorem A4b {f:Nat->Option β}{v:Option β}(h:f k=v):upd f k v=f:=by
 funext x;unfold upd;split
 ·rename_i hx;rw[hx,h]
 ·rfl
variable {tot len:Nat}
theorem C8s {id:Nat}(hs:E8 G w ob m)(hm:m id=some (.frz z s))(hr:Rel G w ob (.sl id off len tot) v)(ht:tot=s.n):
  Rel G w ob (.dsl z len (λi=>s.g (off+i))) v:=by
 cases hr with
 |sl i h hle hs' hv=>
  have ho:=hs.own id _ i hm h;obtain⟨h0,h1,h2,h3,h4⟩:=ho;obtain⟨h5,h6,h7⟩:=hv (by rw[h2,ht]);rcases h4 with⟨hb,hn,_⟩ |⟨b,arr,T,fz,hb,hG,hh,hin⟩
  ·have:len=0:=o_
   subst this;rcases h6 hb with rfl |⟨a,rfl⟩
   ·exact .dslNil
   ·exact .dslE a 0
  ·obtain⟨o,c,rfl,hc,ho1,ho2⟩:=h7 b hb;by_cases hl:len=0
   ·subst hl;exact .dsl b o c (λ_ _=>undef) hG hc (λi hi=>by omega) (λi j av hi=>by omega) (λi j hi=>by omega) (λi j av hi=>by omega)
   ·have:=ho1 o_
    subst this;refine .dsl b _ c (λk j=>(arr[(off+k)*i.esz+j]?).getD undef) hG hc (λk hk=>by rw[<-h1];exact hin.1 _ o_) (λk j av hk hj=>(hin.2 _ j av o_ hj).1) (λk j hk hj=> ?_) (λk j av hk hj=> ?_)
    ·have hlen:=hin.1 (off+k) o_
     obtain⟨_,u,hu,_⟩:=hin.2 (off+k) j (s.g (off+k))[j] o_ (zg (by rw[hlen,h1];exact hj));have e:off*i.esz+(k*z+j)=(off+k)*i.esz+j:=by rw[qa,<-h1,yx]
     rw[e,cell_of_row w b _ arr T _ hh,hu];simp
    ·obtain⟨_,u,hu,hrel⟩:=hin.2 (off+k) j av o_ hj;rw[hu];exact hrel
theorem E8.freezeB(hs:E8 G w ob m){id:Nat}{cs:List AV}(hm:m id=some (.box cs))(hp:cs.all AV.pure=true):
  ∃G',E8 G' w ob (upd m id (some (.frzb cs)))/\(∀b,G b->G' b)/\(∀b,G' b->G b\/P6 ob b)/\
   (∀i b,ob id=some i->i.blk=some b->G' b):=by
 cases hi:ob id with
 |none=>rw[(hs.dom id).2 hi]at hm;cases hm
 |some i=>
  have ho:=hs.own id _ i hm hi;refine⟨λb=>G b\/i.blk=some b,⟨?_,hs.inj,?_,?_,?_⟩,λb h=> .inl h,λb h=>h.imp (λh=>h) (λh=>⟨id,i,hi, .inl h⟩),λj b hj hb=> ?_⟩
  ·intro x;by_cases hx:x=id
   ·subst hx;simp[hi]
   ·rw[J0 hx];exact hs.dom x
  ·rintro b (h |h)
   ·exact hs.lt b h
   ·exact ho.blk_lt h
  ·intro x o j hx hj;by_cases hxe:x=id
   ·subst hxe;simp only[A03,za]at hx;subst hx;rw[hi]at hj;injection hj with hj;subst hj;obtain⟨h1,h2,h3,b,arr,T,h4,h5,h6,h7⟩:=ho;refine⟨h1,h2,h3,b,arr,T,(0,0),h4, .inr h4,h5,h6,λj av hj=> ?_⟩;obtain⟨_,u,hu,hr⟩:=h7 j av hj;exact⟨qm.1 hp av (qv hj),u,hu,hr.ext (λ_ h=> .inl h) (λ_ _=>rfl) (D4.refl ob)⟩
   ·rw[J0 hxe]at hx;exact(hs.own x o j hx hj).ext (λ_ h=> .inl h) (λ_ _=>rfl) (D4.refl ob) (λ_ _=>rfl)
  ·intro x o j b hx hown hj hb;by_cases hxe:x=id
   ·subst hxe;simp only[A03,za]at hx;subst hx;simp[A7.owned]at hown
   ·rw[J0 hxe]at hx;rintro(h |h)
    ·exact hs.sep x o j b hx hown hj hb h
    ·exact hxe (hs.inj _ _ _ _ b hj hi hb (.inl h))
  grind
def A6m(m m1:Nat->Option A7):Prop:= ∀id,m1 id=m id\/(∃z s,m id=some (.arr z s)/\m1 id=some (.frz z s))\/ ∃cs,m id=some (.box cs)/\m1 id=some (.frzb cs)
variable {cs:List AV}
theorem E3o {id o:Nat}(hs:E8 G w ob m)(hm:m id=some (.frzb cs))(hr:Rel G w ob (.ptr id k o tot) v)(hk:k=0)(ht:tot=1):
  Rel G w ob (.dE (cs.drop o)) v:=by
 cases hr with
 |ptr a i h hle hv=>
  have ho:=hs.own id _ i hm h;obtain⟨h0,h1,h2,b,arr,T,fz,h3,h4,h5,h6,h7⟩:=ho;obtain⟨b',h8,rfl,h9⟩:=hv (by rw[h1,ht]);rw[h3]at h8;injection h8 with h8;subst h8;subst hk;have e:0*i.esz+o=o:=p_
  rw[e];have hget: ∀(j:Nat) (av:AV),(cs.drop o)[j]? =some av->cs[o+j]? =some av:=λj av hj=>by rwa[qU]at hj
  refine .dE b o (λj=>(arr[o+j]?).getD undef) h4 (λj av hj=>(h7 _ av (hget j av hj)).1) (λj hj=> ?_) (λj av hj=> ?_)
  ·have hlt:o+j<cs.length:=by simp only[qn]at hj;omega
   obtain⟨_,u,hu,_⟩:=h7 (o+j) _ (zg hlt);rw[cell_of_row w b _ arr T _ h5,hu];rfl
  grind
theorem A4r(m:Nat->Option A7)(a b:List (Nat×A7)):wrm m (a++b)=wrm (wrm m a) b:=by simp[wrm]
abbrev D4l(G:Nat->Prop)(w:World)(ob:Place)(m m1:Nat->Option A7)(wr:List (Nat×A7))(c':AV)(v:Value):Prop:= ∃G2,E8 G2 w ob (wrm m1 wr)/\A6m m (wrm m1 wr)/\(∀b,G b->G2 b)/\(∀b,G2 b->G b\/P6 ob b)/\c'.pure=true/\Rel G2 w ob c' v
variable {p:Prop} {wr:List (Nat×A7)} {c':AV}
theorem C3j {c:AV}{m1:Nat->Option A7}(h:c.pure=true)(hf:some (True,c,[])=some (p,c',wr))(hs:E8 G w ob m1)(ha:A6m m m1)(hr:Rel G w ob c v):
  D4l G w ob m m1 wr c' v:=by
 injection hf with hf;injection hf with _ hf;injection hf with h1 h2;subst h1 h2;exact⟨G,hs,ha,λ_ h=>h,λ_ h=> .inl h,h,hr⟩
mutual
theorem C42: ∀ {c c':AV} {p:Prop} {wr:List (Nat×A7)} {v:Value} {G:Nat->Prop} {m1:Nat->Option A7},R5 m c=some (p,c',wr)->p->
  E8 G w ob m1->A6m m m1->Rel G w ob c v->
  D4l G w ob m m1 wr c' v
 | .sl id off len tot,c',p,wr,v,G,m1,hf,hp,hs,ha,hr=>by
   have frozen: ∀z s,tot=s.n->m1 id=some (.frz z s)->c'= .dsl z len (λi=>s.g (off+i))->wrm m1 wr=m1->
     D4l G w ob m m1 wr c' v:=by
    rintro z s ht hm1 rfl hw;unfold D4l;rw[hw];exact⟨G,hs,ha,λ_ h=>h,λ_ h=> .inl h,rfl,C8s hs hm1 hr ht⟩
   simp only[R5]at hf;cases hm:m id with
   |none=>simp[hm]at hf
   |some obj=>
    rw[hm]at hf;cases obj with
    |arr z s=>
     cases hf;rcases ha id with h1 |⟨z',s',h1,h2⟩ |⟨cs',h1,h2⟩
     ·rw[hm]at h1;obtain⟨G2,h3,h4,h5,h6⟩:=hs.freeze h1;refine⟨G2,h3,?_,h4,h5,rfl,C8s h3 p_ (hr.ext h4 (λ_ _=>rfl) (D4.refl ob)) hp⟩;intro x;by_cases hx:x=id
      ·subst hx;exact .inr (.inl ⟨z,s,hm,by simp[wrm]⟩)
      ·simp only[wrm,List.foldl_cons,List.foldl_nil,J0 hx];exact ha x
     ·rw[hm]at h1;injection h1 with h1;injection h1 with h1 h1';subst h1;subst h1';exact frozen z s hp h2 rfl (by simp only[wrm,List.foldl_cons,List.foldl_nil];exact A4b h2)
     ·rw[hm]at h1;cases h1
    |frz z s=>
     cases hf;rcases ha id with h1 |⟨z',s',h1,h2⟩ |⟨cs',h1,h2⟩
     ·rw[hm]at h1;exact frozen z s hp h1 rfl rfl
     all_goals grind
    |_=>simp at hf
 | .ptr id k o tot,c',p,wr,v,G,m1,hf,hp,hs,ha,hr=>by
   have frozen: ∀cs,k=0->tot=1->m1 id=some (.frzb cs)->c'= .dE (cs.drop o)->wrm m1 wr=m1->
     D4l G w ob m m1 wr c' v:=by
    rintro cs hk ht hm1 rfl hw;unfold D4l;rw[hw];exact⟨G,hs,ha,λ_ h=>h,λ_ h=> .inl h,rfl,E3o hs hm1 hr hk ht⟩
   simp only[R5]at hf;cases hm:m id with
   |none=>simp[hm]at hf
   |some obj=>
    rw[hm]at hf;cases obj with
    |box cs=>
     simp only at hf;split at hf
     case isFalse=>cases hf
     rename_i hpu;cases hf;rcases ha id with h1 |⟨z',s',h1,h2⟩ |⟨cs',h1,h2⟩
     ·rw[hm]at h1;obtain⟨G2,h3,h4,h5,h6⟩:=hs.freezeB h1 (by rw[qm];exact λx hx=>let⟨j,hj⟩:=zA hx;B6c hpu hj);refine⟨G2,h3,?_,h4,h5,rfl,E3o h3 p_ (hr.ext h4 (λ_ _=>rfl) (D4.refl ob)) hp.1 hp.2⟩;intro x;by_cases hx:x=id
      ·subst hx;exact .inr (.inr ⟨cs,hm,by simp[wrm]⟩)
      ·simp only[wrm,List.foldl_cons,List.foldl_nil,J0 hx];exact ha x
     ·rw[hm]at h1;cases h1
     ·rw[hm]at h1;injection h1 with h1;injection h1 with h1;subst h1;exact frozen cs hp.1 hp.2 h2 rfl (by simp only[wrm,List.foldl_cons,List.foldl_nil];exact A4b h2)
    |frzb cs=>
     cases hf;rcases ha id with h1 |⟨z',s',h1,h2⟩ |⟨cs',h1,h2⟩
     ·rw[hm]at h1;exact frozen cs hp.1 hp.2 h1 rfl rfl
     all_goals grind
    |_=>simp at hf
 | .fn f a b,c',p,wr,v,G,m1,hf,hp,hs,ha,hr=>by
   simp only[R5]at hf;split at hf
   ·rename_i p1 a' w1 q1 b' w2 h1 h2;cases hf;cases hr with
    |fn vs us hn hm hra hrb=>
     obtain⟨G2,a1,a2,a3,a4,a5,a6⟩:=B0w a a' p1 w1 (λj=>vs.getD j undef) G m1 h1 hp.1 hs ha hra;obtain⟨G3,b1,b2,b3,b4,b5,b6⟩:=B0w b b' q1 w2 (λj=>us.getD j undef) G2 _ h2 hp.2 a1 a2 (λj av hj=>(hrb j av hj).ext a3 (λ_ _=>rfl) (D4.refl ob));refine⟨G3,by rw[A4r];exact b1,by rw[A4r];exact b2,λb h=>b3 b (a3 b h),λb h=> ?_,?_, .fn vs us (by rw[hn,a5]) (by rw[hm,b5]) (λj av hj=>(a6 j av hj).2.ext b3 (λ_ _=>rfl) (D4.refl ob)) λj av hj=>(b6 j av hj).2⟩
     ·grind
     ·simp only[AV.pure,zi];exact⟨C3x λj av hj=>(a6 j av hj).1,C3x λj av hj=>(b6 j av hj).1⟩
   ·cases hf
 | .sc u,_,_,_,_,_,_,hf,_,hs,ha,hr=>C3j rfl hf hs ha hr
 | .dsl ..,_,_,_,_,_,_,hf,_,hs,ha,hr=>C3j rfl hf hs ha hr
 | .dslx ..,_,_,_,_,_,_,hf,_,hs,ha,hr=>C3j rfl hf hs ha hr
 | .dE _,_,_,_,_,_,_,hf,_,hs,ha,hr=>C3j rfl hf hs ha hr
 | .mp _,_,_,_,_,_,_,hf,_,_,_,_=>by simp[R5]at hf
 | .agg _,_,_,_,_,_,_,hf,_,_,_,_=>by simp[R5]at hf
 | .tup _,_,_,_,_,_,_,hf,_,_,_,_=>by simp[R5]at hf
 | .own ..,_,_,_,_,_,_,hf,_,_,_,_=>by simp[R5]at hf
 | .hole,_,_,_,_,_,_,hf,_,_,_,_=>by simp[R5]at hf
theorem B0w: ∀(cs cs':List AV) (p:Prop) (wr:List (Nat×A7)) (v:Nat->Value) (G:Nat->Prop) (m1:Nat->Option A7),A1b m cs=some (p,cs',wr)->p->
  E8 G w ob m1->A6m m m1->(∀(j:Nat) (av:AV),cs[j]? =some av->Rel G w ob av (v j))->
  ∃G2,E8 G2 w ob (wrm m1 wr)/\A6m m (wrm m1 wr)/\(∀b,G b->G2 b)/\(∀b,G2 b->G b\/P6 ob b)/\cs'.length=cs.length/\
   ∀(j:Nat) (av:AV),cs'[j]? =some av->av.pure=true/\Rel G2 w ob av (v j)
 | [],cs',p,wr,v,G,m1,hf,hp,hs,ha,hr=>by simp only[A1b,za,zq]at hf;obtain⟨_,rfl,rfl⟩:=hf;exact⟨G,hs,ha,λ_ h=>h,λ_ h=> .inl h,rfl,λj av h=>by simp at h⟩
 |c::cs,cs',p,wr,v,G,m1,hf,hp,hs,ha,hr=>by
  simp only[A1b]at hf;split at hf
  ·rename_i p1 c1 w1 q1 cs1 w2 h1 h2;cases hf;obtain⟨G2,a1,a2,a3,a4,a5,a6⟩:=C42 (v:=v 0) h1 hp.1 hs ha (hr 0 c p_);obtain⟨G3,b1,b2,b3,b4,b5,b6⟩:=B0w cs cs1 q1 w2 (λj=>v (j+1)) G2 _ h2 hp.2 a1 a2 (λj av hj=>(hr (j+1) av (by simpa using hj)).ext a3 (λ_ _=>rfl) (D4.refl ob));refine⟨G3,by rw[A4r];exact b1,by rw[A4r];exact b2,λb h=>b3 b (a3 b h),λb h=> ?_,by simp[b5],λj av hj=> ?_⟩
   ·grind
   ·cases j with
    |zero=>simp only[List.getElem?_cons_zero,za]at hj;subst hj;exact⟨a5,a6.ext b3 (λ_ _=>rfl) (D4.refl ob)⟩
    |succ j=>grind
  ·cases hf
end
theorem A6m.refl(m:Nat->Option A7):A6m m m:=λ_=> .inl rfl
theorem Fr.frozen(h1: ∀b,G b->G' b)(h2: ∀b,G' b->G b\/P6 ob b):Fr G w ob G' w ob:=⟨ze _,λ_ _ _=>rfl,λ_ h=> .inl h,h1,λb h=>(h2 b h).imp id (λh=> .inr h),rfl,rfl,rfl,ze _⟩
variable {r:Res} {m':Nat->Option A7}
theorem E6.after {s:Sem Next}(h1: ∀b,G b->G' b)(h2: ∀b,G' b->G b\/P6 ob b)
  (hm:m'=wrm m wr)(h:E6 P G' w ob m' s r):E6 P G w ob m s ⟨r.val,wr++r.wr⟩:=by
 obtain⟨G2,w2,ob2,v,a1,a2,a3,a4,a5⟩:=h;refine⟨G2,w2,ob2,v,a1,?_,a3,a4,(Fr.frozen h1 h2).trans a5⟩;rw[A4r,<-hm];exact a2
variable {esz:Nat} {g:Nat->List AV} {vs:Array Value}
theorem E13 {s:Sem Next}{id:Nat}{T:TypeId}(hs:E8 G w ob m)(hid:m id=none)
  (hn:vs.size=len*esz)(hlen: ∀k,k<len->(g k).length=esz)
  (hrel: ∀(k j:Nat) (av:AV),k<len->(g k)[j]? =some av->av.pure=true/\Rel G w ob av (vs.getD (k*esz+j) undef))
  (h:s.run P w= .ok (.value (.slice (some ⟨w.heap.size,0,none⟩) len len)) (w.alloc (.cells vs T))):E6 P G w ob m s ⟨some (.sl id 0 len len),[(id, .arr esz ⟨len,g⟩)]⟩:=by
 have hno:ob id=none:=(hs.dom id).1 hid
 have hext:D4 ob (upd ob id (some ⟨some w.heap.size,esz,len,len, .cells⟩)):=λx j hj=>by
  have hx:x≠id:=λe=>by subst e;rw[hno]at hj;cases hj
  exact⟨j,by rw[J0 hx];exact hj, .inl rfl⟩
 have hGw: ∀b,G b->(w.alloc (.cells vs T)).heap[b]? =w.heap[b]? :=λb hG=>heap_alloc_old _ _ _ (hs.lt b hG);refine E6.new (w0:=w) (i:=⟨some w.heap.size,esz,len,len, .cells⟩) hs hid rfl rfl rfl rfl h (λb hb=>by simpa using hb.symm) ?_ ?_
 ·refine⟨rfl,rfl,rfl,ze _, .inr ⟨w.heap.size,vs,T,rfl,heap_alloc_new _ _,hn,hlen,λk j av hk hj=> ?_⟩⟩;have hk:k<len:=hk;obtain⟨h1,h2⟩:=hrel k j av hk hj;refine⟨h1,vs.getD (k*esz+j) undef,?_,h2.ext (λ_ h=>h) hGw hext⟩;have hj':j<esz:=by
   grind
  have hlt:k*esz+j<vs.size:=by have:(k+1)*esz<=len*esz:=zw _ o_;rw[qa]at this;omega
  simp[qh hlt]
 ·refine .sl ⟨some w.heap.size,esz,len,len, .cells⟩ p_ (ze _) ⟨_,_,rfl⟩ λ_=>⟨p_,λh=>by simp at h,λb hb=> ?_⟩
  grind
variable {t:TypeId} {d:Nat} {ρ:Operand->Value} {el:TypeId} {size:Nat}
theorem E8b {z:Value}{E9:Array (Nat×Operand)}{ps:List (Nat×Nat×AX)}{e:AX->Option AV}
  (ht:P.underlying t=some (.slice el))(hz:(P.info? el).bind (·.zero)=some z)(hsz:Y8 P el=some size)
  (hzs:z.cells.size=size)(hone:z.cells.all Value.oneCell'=true)(hsmall:len*size<=2^24)
  (hps:(E9.toList.mapM λp=>match(some (p.1*size,size):Option (Nat×Nat)),cx p.2 with |some (o,s),some ax=>some (o,s,ax) |_,_=>none)=some ps)
  (hs:E8 G w ob m)(he:O0 G w ob ρ e)
  (hv:eval (.bslice size len ((Array.range (len*size)).map (z.cells[· %z.cells.size]!)).toList ps) e m d=some (p,r))(hp:p):
  E6 P G w ob m (do pure (.value (<-Instr.buildSlice t len (E9.map λ(i,x)=>(i,ρ x))))) r:=by
 simp only[eval]at hv;cases hm:m (nid d)with
 |some o=>simp[hm]at hv
 |none=>
  generalize hZ:(Array.range (len*size)).map (z.cells[· %z.cells.size]!)=Z at hv;have hZone:Z.all Value.oneCell'=true:=by
   rw[yh];intro u hu;rw[<-hZ,Array.mem_map]at hu;obtain⟨k,hk,rfl⟩:=hu;simp only[Array.mem_range]at hk;have hpos:0<z.cells.size:=by grind
   have hlt:=yF k hpos
   grind
  cases hf:A7q e (Z.toList.map .sc) ps with
  |none=>simp[hm,hf]at hv
  |some cs=>
   simp only[hm,hf]at hv;split at hv
   case h_2=>cases hv
   rename_i p1 cs' wr hfr;simp only[za,zq]at hv;obtain⟨rfl,rfl⟩:=hv;obtain⟨Z',h1,h2⟩:=D1e (place:=λi=>some (i*size,size)) he E9.toList ps Z _ cs hps (D4s hZone) hf;have hlenZ:Z.size=len*size:=by rw[<-hZ];simp
   have hZ'len:Z'.size=len*size:=by
    have key: ∀(l:List (Nat×Value)) (A B:Array Value),Instr.fill (λi=>some (i*size,size)) A l=some B->B.size=A.size:=by
     intro l;induction l with
     |nil=>intro A B h;simp[Instr.fill]at h;rw[h]
     |cons x l ih=>
      intro A B h;obtain⟨i,v⟩:=x;simp only[Instr.fill]at h;split at h
      ·cases h
      ·rw[ih _ _ h,<-Array.foldl_toList,Array.toList_zipIdx];exact(C6h v.cells.toList 0 (i*size) A 0).1
    rw[key _ _ _ h1,hlenZ]
   obtain⟨G2,a1,a2,a3,a4,a5,a6⟩:=B0w cs cs' p1 wr (λj=>Z'.getD j undef) G m hfr hp hs (A6m.refl m) (λj av hj=>h2.2.2 j av hj);have hm2:wrm m wr (nid d)=none:=by
    rcases a2 (nid d)with h |⟨_,_,h,_⟩ |⟨_,h,_⟩
    all_goals grind
   have hrun:(Instr.buildSlice t len (E9.map λ(x:Nat×Operand)=>(x.1,ρ x.2))).run P w= .ok (.slice (some ⟨w.heap.size,0,none⟩) len len) (w.alloc (.cells Z' el)):=by
    have h1':Instr.fill (λi=>some (i*size,size)) Z (E9.map λ(x:Nat×Operand)=>(x.1,ρ x.2)).toList=some Z':=by rw[Array.toList_map];exact h1
    have hns: ¬len*size>2^24:=o_
    unfold Instr.buildSlice;simp only[Sem.run_bind,run_underlying ht,Result.andThen_ok,T9 hsz,zb hns];by_cases h0:len*size=0
    ·have hZ0:Z= #[]:=qI o_
     rw[hZ0]at h1';simp only[h0,zL,Sem.run_pure,Result.andThen_ok,Array.range_zero',Array.map_empty,h1',newRow,Sem.run_bind,run_newObj];simp
    ·simp only[h0,zJ,Sem.run_bind,B2c hz,Result.andThen_ok,Sem.run_pure,hZ,h1',newRow,run_newObj];simp
   refine E6.after (m':=wrm m wr) a3 a4 rfl (E13 (T:=el) a1 hm2 hZ'len (λk hk=> ?_) (λk j av hk hj=> ?_) ?_)
   ·have hl2:cs'.length=len*size:=by rw[a5,<-h2.1,hZ'len]
    simp only[zt,qn,hl2];have:(k+1)*size<=len*size:=zw _ o_;rw[qa]at this;omega
   ·grind
   ·simp[hrun]
theorem A0y {b:Nat}{arr cs:Array Value}{T:TypeId}{fz:Nat×Nat}(h:w.heap[b]? =some (.cells arr T fz)):(w.setRow b cs).heap[b]? =some (.cells cs T fz):=setRow_heap w b arr cs T fz h
def stored(arr:Array Value)(o:Nat)(vs:List Value):Array Value:=(arr.toList.take o++vs++arr.toList.drop (o+vs.length)).toArray
theorem A4q(arr:Array Value)(o:Nat)(vs:List Value)(h:o+vs.length<=arr.size):(stored arr o vs).size=arr.size:=by simp only[stored,yI,zd,zt,qn,Array.length_toList];omega
theorem A5m(arr:Array Value)(o:Nat)(vs:List Value)(h:o+vs.length<=arr.size)(q:Nat):
  (stored arr o vs)[q]? =if o<=q/\q<o+vs.length then vs[q-o]? else arr[q]? :=by
 have hn:(arr.toList.take o).length=o:=by simp;omega
 simp only[stored,List.getElem?_toArray]
 grind
variable {n:Nat}
theorem B54 {b o:Nat}{arr:Array Value}{T:TypeId}(hsz:Y8 P t=some n)(hn:v.cells.size=n)
  (hg:w.heap[b]? =some (.cells arr T (0,0)))(hl:o+n<=arr.size)(hone: ∀u∈v.cells.toList,u.oneCell'=true):
  (Instr.storeAt t (.pointer (some ⟨b,o,none⟩)) v).run P w= .ok () (w.setRow b (stored arr o v.cells.toList)):=by
 have hst:=run_storeCells_at (P:=P) b o T v.cells.toList 0 arr w hg (by simp;omega) hone;simp only[Nat.add_zero]at hst;simp[Instr.storeAt,Instr.sureAddr,storeVar,T9 hsz,hn,hst,stored]
theorem B64(hn:vs.size=cs.length)(hone: ∀(j:Nat) (av:AV),cs[j]? =some av->av.one=true)
  (hrel: ∀(j:Nat) (av:AV),cs[j]? =some av->Rel G w ob av (vs.getD j undef)): ∀u∈vs.toList,u.oneCell'=true:=by
 intro u hu;obtain⟨j,hj⟩:=zA hu;have hlt:j<cs.length:=by grind
 have h1:=hrel j cs[j] (zg hlt)
 have h2:vs.getD j undef=u:=by simp at hj;simp[hj]
 rw[h2]at h1;exact h1.one_cell (hone j _ (zg hlt))
variable {news:List Value}
theorem PAt.stored {id o:Nat}{i:L4}{p:Nat->Prop}{b:Nat}{arr:Array Value}{T:TypeId}{β β':Nat->Nat->Option Nat}{cs':List AV}
  (h:PAt G w ob id z s i p b arr T β)(hk:k<s.n)(hoz:o+n<=z)(hlen:cs'.length=n)(hnews:news.length=n)
  (hβ: ∀q j,¬(q=k/\o<=j/\j<o+n)->β' q j=β q j)
  (hnew: ∀(j:Nat) (av:AV),cs'[j]? =some av-> ∃v,news[j]? =some v/\A9o G w' ob' (β' k (o+j)) av v)
  (hob:D4 ob ob')(hG: ∀x,G x->w'.heap[x]? =w.heap[x]?)(hp: ∀x,p x->w'.heap[x]? =w.heap[x]?):
  k*z+o+news.length<=arr.size/\A7y G w' ob' (stored arr (k*z+o) news) z (s.set k (T3 (s.g k) o cs')) β':=by
 have hcap:(k+1)*z<=i.cap*z:=zw _ (qd hk h.cap)
 have hfit:k*z+o+news.length<=arr.size:=by rw[h.size,hnews];rw[qa]at hcap;omega
 have hgk:(s.g k).length=z:=h.row.1 k hk;refine⟨hfit,λq hq=> ?_,λq j av hq hj=> ?_⟩
 ·simp only[Sq.set];split
  ·rw[A82 _ _ _ o_,hgk]
  ·exact h.row.1 q hq
 ·simp only[Sq.set]at hq hj;rw[A5m _ _ _ hfit,hnews];have old: ∀c,(s.g q)[j]? =some c-> ¬(q=k/\o<=j/\j<o+n)-> ∃v,arr[q*z+j]? =some v/\A9o G w' ob' (β' q j) c v:=λc hc hne=>by
   obtain⟨v,hv,hcl⟩:=h.row.2 q j c hq hc;refine⟨v,hv,?_⟩;rw[hβ q j hne];refine hcl.ext (λ_ h=>h) hG hob λx hx=>hp x (h.bl.sub q j x hq ?_ hx);rw[<-h.row.1 q hq];grind
  by_cases hqk:q=k
  ·subst hqk;rw[zc rfl,getElem?_splice _ _ _ _ o_]at hj
   grind
  ·rw[zb hqk]at hj;have hjl:j<z:=by
    rw[<-h.row.1 q hq];grind
   have hout: ¬(k*z+o<=q*z+j/\q*z+j<k*z+o+n):=by
    rintro⟨e1,e2⟩;rcases qq q k with hlt |hge
    ·have:(q+1)*z<=k*z:=zw _ hlt
     rw[qa]at this;omega
    ·have:(k+1)*z<=q*z:=zw _ o_
     rw[qa]at this;omega
   grind
variable {ρx:Value}
theorem E8j {ρy:Value}{id o:Nat}{v:AV}
  (hsz:Y8 P t=some n)(hs:E8 G w ob m)(hm:m id=some (.arrP z s))(hr:Rel G w ob (.ptr id k o tot) ρx)(hr2:Rel G w ob v ρy)
  (hv:C2u m id k o tot z s n v=some (p,r))(hp:p):
  E6 P G w ob m (do Instr.storeAt t ρx ρy;pure Next.skip) r:=by
 have hother: ∀ {b:Nat} {row:Array Value} (q:Nat),q≠b->(w.setRow b row).heap[q]? =w.heap[q]? :=λq hq=>setRow_other w _ q _ hq;by_cases hsl: ∃id' off len tot',v= .sl id' off len tot'
 ·obtain⟨id',off,len,tot',rfl⟩:=hsl;simp only[C2u]at hv;split at hv
  case h_2=>cases hv
  rename_i z' s' hm';split at hv
  case isFalse=>cases hv
  rename_i hc;obtain⟨rfl,hne⟩:=hc;cases hv;obtain⟨ht,hoz,rfl,rfl,rfl⟩:=hp;obtain⟨i,pp,b,arr,T,β,hA,rfl,hk⟩:=B81 hs hm hr ht;obtain rfl:i.esz=z:=hA.esz;have hp': ∀x,i.has x↔i.blk=some x\/pp x:=λx=>L4.has_priv hA.kind x;cases hr2 with
  |sl i' hi' hle hss hvv=>
   obtain⟨hk',hz',hl',hc',hrow'⟩:=hs.own id' _ i' hm' hi';obtain⟨_,hvn,hvs⟩:=hvv (by rw[hl']);have hone:ρy.oneCell'=true:=by obtain⟨a,c,rfl⟩:=hss;rfl
   have hcells:ρy.cells= #[ρy]:=by obtain⟨a,c,rfl⟩:=hss;rfl
   have hbne:i'.blk≠some b:=λe=>hne (hs.inj _ _ _ _ b hi' hA.hi (.inl e) (.inl hA.blk))
   have hpne: ∀x,i'.blk=some x-> ¬pp x:=λx e hx=>hne (hs.inj _ _ _ _ x hi' hA.hi (.inl e) ((hp' x).2 (.inr hx)))
   have hnG: ¬G b:=hs.sep id _ i b hm rfl hA.hi (.inl hA.blk)
   have hGw: ∀x,G x->(w.setRow b (stored arr (k*i.esz+o) [ρy])).heap[x]? =w.heap[x]? :=λx hx=>hother x (λe=>hnG (e▸hx))
   have hob:D4 ob (upd (upd ob id (some {i with kind:= .priv λx=>(pp x/\β k o≠some x)\/i'.blk=some x})) id' (some ⟨none,0,i'.len+1,0, .cells⟩)):=λq j hj=>by
    by_cases hq:q=id'
    ·simp_all
    ·rw[J0 hq];by_cases hq2:q=id
     ·subst hq2;rw[hA.hi]at hj;injection hj with hj;subst hj;exact⟨_,by simp;rfl, .inr (.inl ⟨pp,_,hA.kind,rfl⟩)⟩
     ·exact⟨j,by rw[J0 hq2];exact hj, .inl rfl⟩
   obtain⟨hfit,hrow⟩:=hA.stored (k:=k) (o:=o) (w':=w.setRow b (stored arr (k*i.esz+o) [ρy])) (n:=1) (cs':= [.own z' s'.n s'.g]) (news:= [ρy]) (β':=λq j=>if q=k/\j=o then i'.blk else β q j) hk o_ rfl rfl
    (λq j hq=>by grind)
    (λj av hj=>by
      cases j with
      |succ j=>simp at hj
      |zero=>
       simp only[List.getElem?_cons_zero,za]at hj;subst hj;refine⟨ρy,rfl,?_⟩;simp only[Nat.add_zero,yl,zL];rcases hrow' with⟨h1,h2,_⟩ |⟨b2,arr2,T2,h1,h2,h3,h4⟩
       ·exact .inl ⟨h1,h2,hvn h1⟩
       ·obtain⟨o2,c2,rfl,h5,_,h6⟩:=hvs b2 h1;obtain⟨rfl,rfl⟩:=h6 rfl;refine .inr ⟨b2,i'.cap,arr2,T2,h1,hc',rfl,?_,by rw[h3,hz'],?_⟩
        ·grind
        ·rw[<-hz'];exact h4.ext (λ_ h=>h) hGw hob)
    hob hGw (λx hx=>hother x (λe=>hA.bl.ne (e▸hx)))
   have hrun:=B54 (P:=P) (v:=ρy) (o:=k*i.esz+o) hsz (by rw[hcells];rfl) hA.heap (by simpa using hfit) (by grind);obtain⟨a1,a2,a3⟩:=hs.update2 (w':=w.setRow b (stored arr (k*i.esz+o) [ρy])) id id' (λe=>hne e.symm) (.arrP i.esz (s.set k (T3 (s.g k) o [.own z' s'.n s'.g]))) .gone
    {i with kind:= .priv λx=>(pp x/\β k o≠some x)\/i'.blk=some x} ⟨none,0,i'.len+1,0, .cells⟩ p_
    (λx _ h1 _=>hother x λe=>h1 i hA.hi (.inl (by rw[hA.blk,e]))) hGw
    (λj hj=>by rw[hA.hi]at hj;injection hj with hj;subst hj;exact .inr (.inl ⟨pp,_,hA.kind,rfl⟩))
    (λj hj=>by rw[hi']at hj;injection hj with hj;subst hj;exact .inr (.inr ⟨p_,by rw[hk'];simp⟩))
    (λx hx=>by
      rcases hx with hx |hx |hx
      ·exact .inl ⟨i,hA.hi, .inl hx⟩
      ·exact .inl ⟨i,hA.hi,(hp' x).2 (.inr hx.1)⟩
      ·exact .inr ⟨i',hi', .inl hx⟩)
    (λx hx=>by have:=L4.has_plain (.inl rfl) hx;cases this)
    (λx _ hx=>by have:=L4.has_plain (.inl rfl) hx;cases this)
    (by
      refine⟨rfl,hA.len,hA.cap,_,rfl, .inr ⟨b,_,T,λq j=>if q=k/\j=o then i'.blk else β q j,hA.blk,A0y hA.heap,by rw[A4q _ _ _ hfit];exact hA.size,hrow,?_⟩⟩;refine⟨λq j x hq hj hx=> ?_,λx hx=> ?_,λq j q' j' x hq hj hq' hj' hx hx'=> ?_,λhx=> ?_⟩
      ·split at hx
       ·exact .inr hx
       ·rename_i hne2;exact .inl ⟨hA.bl.sub q j x hq hj hx,λe=>hne2 (hA.bl.inj q j k o x hq hj hk o_ hx e)⟩
      ·rcases hx with hx |hx
       ·obtain⟨q,j,hq,hj,hx2⟩:=hA.bl.all x hx.1;refine⟨q,j,hq,hj,?_⟩
        grind
       ·exact⟨k,o,hk,o_,by simp[hx]⟩
      ·split at hx <;> split at hx'
       ·omega
       ·exact(hpne x hx (hA.bl.sub _ _ x hq' hj' hx')).elim
       ·exact(hpne x hx' (hA.bl.sub _ _ x hq hj hx)).elim
       ·exact hA.bl.inj q j q' j' x hq hj hq' hj' hx hx'
      ·rcases hx with hx |hx
       ·exact hA.bl.ne hx.1
       ·exact hbne hx)
    ⟨rfl,rfl⟩
    (λ_ x hx=>by
      rcases hx with hx |hx |hx
      ·exact hs.sep id _ i x hm rfl hA.hi (.inl hx)
      ·exact hs.sep id _ i x hm rfl hA.hi ((hp' x).2 (.inr hx.1))
      ·exact hs.sep id' _ i' x hm' rfl hi' (.inl hx))
    (λ_ x hx=>by have:=L4.has_plain (.inl rfl) hx;cases this)
   refine⟨G,w.setRow b (stored arr (k*i.esz+o) [ρy]),_,undef, .inr ⟨?_,rfl⟩,a1,(λ_ hh=>by cases hh),a2,Fr.of_heap p_ (λx hx hc=> ?_) (λx hx=> .inl (a3 x hx)) rfl rfl rfl⟩
   ·rw[hcells]at hrun;simp[hrun]
   ·refine hother x λe=> ?_;subst e;rcases hc with hc |hc
    ·exact hnG hc
    ·exact hc ⟨id,i,hA.hi, .inl hA.blk⟩
 ·have h2:v.cells.all AV.pure=true/\v.cells.length=n/\p=(tot=s.n/\o+n<=z)/\r=⟨none,[(id, .arrP z (s.set k (T3 (s.g k) o v.cells)))]⟩:=by
   cases v with
   |sl id' off len tot'=>exact absurd ⟨_,_,_,_,rfl⟩ hsl
   |_=>
    simp only[C2u]at hv;split at hv
    ·rename_i hc;simp only[za,zq]at hv;exact⟨hc.1,hc.2,hv.1.symm,hv.2.symm⟩
    ·cases hv
  obtain⟨hpure,hcl,rfl,rfl⟩:=h2;obtain⟨ht,hoz⟩:=hp;obtain⟨i,pp,b,arr,T,β,hA,rfl,hk⟩:=B81 hs hm hr ht;obtain rfl:i.esz=z:=hA.esz;have hp': ∀x,i.has x↔i.blk=some x\/pp x:=λx=>L4.has_priv hA.kind x
  have hnt: ∀l,v≠ .tup l:=λl hl=>by subst hl;simp[AV.cells,AV.pure]at hpure
  obtain⟨g1,g2,g3⟩:=B59 hr2 hnt;have hnG: ¬G b:=hs.sep id _ i b hm rfl hA.hi (.inl hA.blk)
  have hGw: ∀x,G x->(w.setRow b (stored arr (k*i.esz+o) ρy.cells.toList)).heap[x]? =w.heap[x]? :=λx hx=>hother x (λe=>hnG (e▸hx))
  have hob:D4 ob (upd ob id (some {i with kind:= .priv λx=>pp x/\ ∀j,o<=j->j<o+n->β k j≠some x})):=λq j hj=>by
   by_cases hq2:q=id
   ·subst hq2;rw[hA.hi]at hj;injection hj with hj;subst hj;exact⟨_,by simp;rfl, .inr (.inl ⟨pp,_,hA.kind,rfl⟩)⟩
   ·exact⟨j,by rw[J0 hq2];exact hj, .inl rfl⟩
  have hcn:ρy.cells.size=n:=by rw[g1,hcl]
  obtain⟨hfit,hrow⟩:=hA.stored (k:=k) (o:=o) (w':=w.setRow b (stored arr (k*i.esz+o) ρy.cells.toList)) (n:=n) (cs':=v.cells) (news:=ρy.cells.toList) (β':=λq j=>if q=k/\o<=j/\j<o+n then none else β q j) hk hoz hcl (by simpa using hcn)
   (λq j hq=>by rw[zb hq])
   (λj av hj=>by
     have hjn:j<n:=by grind
     refine⟨ρy.cells.getD j undef,?_,?_⟩
     ·simp_all
     ·rw[zc ⟨rfl,o_,o_⟩];have hpu:av.pure=true:=qm.1 hpure av (qv hj)
      have hrel:=(g3 j av hj).ext (G':=G) (w':=w.setRow b (stored arr (k*i.esz+o) ρy.cells.toList)) (λ_ h=>h) hGw hob;cases av with
      |own=>simp[AV.pure]at hpu
      |hole=>simp[AV.pure]at hpu
      |_=>exact⟨hpu,rfl,hrel⟩)
   hob hGw (λx hx=>hother x (λe=>hA.bl.ne (e▸hx)))
  have hrun:=B54 (P:=P) (v:=ρy) (o:=k*i.esz+o) hsz hcn hA.heap (by simpa[hcn]using hfit) (B64 g1 g2 g3)
  have hi1: ∀x,({i with kind:= .priv λx=>pp x/\ ∀j,o<=j->j<o+n->β k j≠some x}:L4).has x↔i.blk=some x\/(pp x/\ ∀j,o<=j->j<o+n->β k j≠some x):=λx=>Iff.rfl;obtain⟨s1,s2,s3⟩:=hs.updateP (w':=w.setRow b (stored arr (k*i.esz+o) ρy.cells.toList)) id (.arrP i.esz (s.set k (T3 (s.g k) o v.cells))) {i with kind:= .priv λx=>pp x/\ ∀j,o<=j->j<o+n->β k j≠some x} p_
   (λx _ h1=>hother x λe=>h1 i hA.hi (.inl (by rw[hA.blk,e])))
   (λj hj=>by rw[hA.hi]at hj;injection hj with hj;subst hj;exact .inr (.inl ⟨pp,_,hA.kind,rfl⟩))
   (λx hx=> .inl ⟨i,hA.hi,(hp' x).2 (((hi1 x).1 hx).imp (λh=>h) (·.1))⟩)
   (λj hj x hx hG=>hGw x hG)
   (by
     refine⟨rfl,hA.len,hA.cap,_,rfl, .inr ⟨b,_,T,λq j=>if q=k/\o<=j/\j<o+n then none else β q j,hA.blk,A0y hA.heap,by rw[A4q _ _ _ hfit];exact hA.size,hrow,?_⟩⟩;refine⟨λq j x hq hj hx=> ?_,λx hx=> ?_,λq j q' j' x hq hj hq' hj' hx hx'=> ?_,λhx=>hA.bl.ne hx.1⟩
     ·split at hx
      ·cases hx
      ·rename_i hne2;exact⟨hA.bl.sub q j x hq hj hx,λj2 h1 h2 e=>hne2 (by obtain⟨rfl,rfl⟩:=hA.bl.inj q j k j2 x hq hj hk o_ hx e;exact⟨rfl,h1,h2⟩)⟩
     ·obtain⟨q,j,hq,hj,hx2⟩:=hA.bl.all x hx.1;refine⟨q,j,hq,hj,?_⟩
      grind
     ·split at hx
      ·cases hx
      ·split at hx'
       ·cases hx'
       ·exact hA.bl.inj q j q' j' x hq hj hq' hj' hx hx')
   (λ_ x hx=>hs.sep id _ i x hm rfl hA.hi ((hp' x).2 (((hi1 x).1 hx).imp (λh=>h) (·.1))))
  refine⟨G,w.setRow b (stored arr (k*i.esz+o) ρy.cells.toList),_,undef, .inr ⟨by simp[hrun],rfl⟩,s1,(λ_ hh=>by cases hh),s2,Fr.of_heap p_ (λx hx hc=> ?_) s3 rfl rfl rfl⟩;refine hother x λe=> ?_;subst e;rcases hc with hc |hc
  ·exact hnG hc
  ·exact hc ⟨id,i,hA.hi, .inl hA.blk⟩
variable {x:Operand} {ax:AX} {y:Operand} {ay:AX}
theorem F1b {e:AX->Option AV}
  (hsz:Y8 P t=some n)
  (hs:E8 G w ob m)(hx:cx x=some ax)(hy:cx y=some ay)(he:O0 G w ob ρ e)(hv:eval (.store n ax ay) e m d=some (p,r))(hp:p):
  E6 P G w ob m (do Instr.storeAt t (ρ x) (ρ y);pure .skip) r:=by
 simp only[eval]at hv;cases hax:e ax with
 |none=>simp[hax]at hv
 |some a=>
  cases hay:e ay with
  |none=>cases a <;> simp[hax,hay]at hv
  |some v=>
   have hr:=he x ax a hx hax
   have hr2:=he y ay v hy hay;rw[hax,hay]at hv;cases a with
   |ptr id k o tot=>
    simp only at hv;generalize ρ x=vx at hr;cases hr with
    |ptr ad i h hle hvv=>
     cases hm:m id with
     |none=>simp[hm]at hv
     |some obj=>
      have ho:=hs.own id obj i hm h;rw[hm]at hv;cases obj with
      |box cs=>
       simp only at hv;split at hv
       case isFalse=>cases hv
       rename_i hc;obtain⟨hc1,hc2,hc3⟩:=hc;cases hv;obtain⟨rfl,rfl⟩:=hp;obtain⟨hmap,h1,h2,b,arr,T,h3,h4,h5,h6⟩:=ho;obtain⟨b',h7,h8,_⟩:=hvv h1;rw[h3]at h7;injection h7 with h7;subst h7;simp only[xd,qk]at h8;subst h8;have hnt: ∀l,v≠ .tup l:=λl hl=>by subst hl;simp[AV.cells,AV.one]at hc3
       obtain⟨g1,g2,g3⟩:=B59 hr2 hnt;have hrun:=B54 (P:=P) (v:=ρ y) (o:=o) hsz (by rw[g1,hc1]) h4 (by rw[h5];exact hc2) (B64 g1 g2 g3)
       have hsize:=A4q arr o (ρ y).cells.toList (by simp[g1,hc1,h5];exact hc2)
       have hnG: ¬G b:=hs.sep id _ i b hm rfl h (.inl h3)
       have hhold: ∀k,k≠b->(w.setRow b (stored arr o (ρ y).cells.toList)).heap[k]? =w.heap[k]? :=λk hk=>setRow_other w b k _ hk
       have hGw: ∀b',G b'->(w.setRow b (stored arr o (ρ y).cells.toList)).heap[b']? =w.heap[b']? :=λb' hG=>hhold b' (λe=>hnG (e▸hG))
       have hup:upd ob id (some i)=ob:=A4b h
       have hob:D4 ob (upd ob id (some i)):=by rw[hup];exact D4.refl ob
       obtain⟨s1,s2,s3⟩:=hs.update (w':=w.setRow b (stored arr o (ρ y).cells.toList)) id (.box (T3 cs o v.cells)) i p_
        (λb' _ hne=>hhold b' (λe=>hne i h (by rw[h3,e]))) (λj hj=>by grind)
        (λb' hb'=> .inl ⟨i,h,hb'⟩) (λj hj b' hb' hG=>hGw b' hG)
        ⟨hmap,h1,by rw[h2,A82 _ _ _ o_],b,_,T,h3,A0y h4,by rw[hsize,h5,A82 _ _ _ o_],λj av hj=>by
          rw[getElem?_splice _ _ _ _ o_]at hj;rw[A5m _ _ _ (by simp[g1,hc1,h5];exact hc2)];simp only[Array.length_toList,g1];split at hj
          ·rename_i hq;rw[zc hq];refine⟨g2 _ av hj,(ρ y).cells.getD (j-o) undef,?_,(g3 _ av hj).ext (λ_ h=>h) hGw hob⟩;have hlt:j-o<(ρ y).cells.size:=by rw[g1];omega
           simp[qh hlt]
          ·rename_i hq;rw[zb hq];obtain⟨h10,u,h11,h12⟩:=h6 j av hj;exact⟨h10,u,h11,h12.ext (λ_ h=>h) hGw hob⟩⟩
        (λ_ b' hb'=>by grind) (λo0 h0=>by rw[hm]at h0;cases h0;rfl)
       refine⟨G,w.setRow b (stored arr o (ρ y).cells.toList),_,undef, .inr ⟨by simp[hrun],rfl⟩,s1,(λ_ hh=>by cases hh),s2,Fr.of_heap p_ (λb' hb' hc=> ?_) s3 rfl rfl rfl⟩;refine hhold b' λe=> ?_;subst e;rcases hc with hc |hc
       ·exact hnG hc
       ·exact hc ⟨id,i,h, .inl h3⟩
      |arr z s=>
       simp only at hv;split at hv
       case h_2=>cases hv
       rename_i p1 cs' wr hfr;cases hv;obtain⟨hp1,ht,hcl,hoz,hwr⟩:=hp;have hnt: ∀l,v≠ .tup l:=λl hl=>by subst hl;simp[AV.cells,A1b,R5,AV.pure]at hfr
       obtain⟨g1,g2,g3⟩:=B59 hr2 hnt;obtain⟨G2,a1,a2,a3,a4,a5,a6⟩:=B0w v.cells cs' p1 wr (λj=>(ρ y).cells.getD j undef) G m hfr hp1 hs (A6m.refl m) g3;have hm2:wrm m wr id=some (.arr z s):=by
        have key: ∀(l:List (Nat×A7)) (f:Nat->Option A7),(l.all λx=>x.1 != id)=true->wrm f l id=f id:=by
         intro l;induction l with
         |nil=>intro f _;rfl
         |cons x l ih=>intro f hl;simp only[List.all_cons,zi,qB,ne_eq]at hl;show wrm (upd f x.1 (some x.2)) l id=f id;rw[ih _ hl.2,J0 (λe=>hl.1 e.symm)]
        rw[key wr m hwr,hm]
       have ho2:=a1.own id _ i hm2 h;obtain⟨hmap,hz1,h1,h2,h3⟩:=ho2;obtain⟨b',h7,h8,h9⟩:=hvv (by rw[h1,ht]);rcases h3 with⟨h3,_⟩ |⟨b,arr,T,h3,h4,h5,h6⟩
       ·rw[h3]at h7;cases h7
       ·rw[h3]at h7;injection h7 with h7;subst h7;subst h8;have hks:k<s.n:=o_
        have hcap:(k+1)*i.esz<=i.cap*i.esz:=zw _ o_
        have hfit:k*i.esz+o+n<=arr.size:=by rw[h5];rw[qa]at hcap;omega
        have hcn:(ρ y).cells.size=n:=by rw[g1,<-a5,hcl]
        have hrun:=B54 (P:=P) (v:=ρ y) (o:=k*i.esz+o) hsz hcn h4 hfit (B64 g1 g2 g3)
        have hsize:=A4q arr (k*i.esz+o) (ρ y).cells.toList (by simp[hcn];exact hfit)
        have hnG: ¬G2 b:=a1.sep id _ i b hm2 rfl h (.inl h3)
        have hhold: ∀q,q≠b->(w.setRow b (stored arr (k*i.esz+o) (ρ y).cells.toList)).heap[q]? =w.heap[q]? :=λq hk=>setRow_other w b q _ hk
        have hGw: ∀b',G2 b'->(w.setRow b (stored arr (k*i.esz+o) (ρ y).cells.toList)).heap[b']? =w.heap[b']? :=λb' hG=>hhold b' (λe=>hnG (e▸hG))
        have hup:upd ob id (some i)=ob:=A4b h
        have hob:D4 ob (upd ob id (some i)):=by rw[hup];exact D4.refl ob
        have hgk:(s.g k).length=i.esz:=h6.1 k hks
        have hrow:B0l G2 (w.setRow b (stored arr (k*i.esz+o) (ρ y).cells.toList)) (upd ob id (some i)) (stored arr (k*i.esz+o) (ρ y).cells.toList) i.esz (s.set k (T3 (s.g k) o cs')):=by
         refine⟨λq hq=> ?_,λq j av hq hj=> ?_⟩
         ·simp only[Sq.set];split
          ·rw[A82 _ _ _ o_,hgk]
          ·exact h6.1 q hq
         ·simp only[Sq.set]at hq hj;rw[A5m _ _ _ (by simp[hcn];exact hfit)];simp only[Array.length_toList,hcn];by_cases hqk:q=k
          ·subst hqk;rw[zc rfl,getElem?_splice _ _ _ _ o_]at hj;split at hj
           ·rename_i hqq;obtain⟨c1,c2⟩:=a6 _ av hj;rw[zc ⟨o_,o_⟩];refine⟨c1,(ρ y).cells.getD (j-o) undef,?_,c2.ext (λ_ h=>h) hGw hob⟩;have hlt:j-o<(ρ y).cells.size:=o_
            have e1:q*i.esz+j-(q*i.esz+o)=j-o:=o_
            simp_all
           ·rename_i hqq;rw[zb o_];obtain⟨c1,u,c2,c3⟩:=h6.2 q j av hq hj;exact⟨c1,u,c2,c3.ext (λ_ h=>h) hGw hob⟩
          ·rw[zb hqk]at hj;obtain⟨c1,u,c2,c3⟩:=h6.2 q j av hq hj;have hjl:j<i.esz:=by
            rw[<-h6.1 q hq];grind
           have hout: ¬(k*i.esz+o<=q*i.esz+j/\q*i.esz+j<k*i.esz+o+n):=by
            rintro⟨e1,e2⟩;rcases qq q k with hlt |hge
            ·have:(q+1)*i.esz<=k*i.esz:=zw _ hlt
             rw[qa]at this;omega
            ·have:(k+1)*i.esz<=q*i.esz:=zw _ o_
             rw[qa]at this;omega
           rw[zb hout];exact⟨c1,u,c2,c3.ext (λ_ h=>h) hGw hob⟩
        obtain⟨s1,s2,s3⟩:=a1.update (w':=w.setRow b (stored arr (k*i.esz+o) (ρ y).cells.toList)) id (.arr z (s.set k (T3 (s.g k) o cs'))) i p_
         (λb' _ hne=>hhold b' (λe=>hne i h (by rw[h3,e]))) (λj hj=>by grind)
         (λb' hb'=> .inl ⟨i,h,hb'⟩) (λj hj b' hb' hG=>hGw b' hG)
         ⟨hmap,hz1,h1,h2, .inr ⟨b,_,T,h3,A0y h4,by rw[hsize,h5],hrow⟩⟩
         (λ_ b' hb'=>by grind) (λo0 h0=>by rw[hm2]at h0;cases h0;rfl)
        refine E6.after (r:=⟨none,[(id, .arr z (s.set k (T3 (s.g k) o cs')))]⟩) (m':=wrm m wr) a3 a4 rfl
         ⟨G2,w.setRow b (stored arr (k*i.esz+o) (ρ y).cells.toList),_,undef, .inr ⟨by simp[hrun],rfl⟩,s1,(λ_ hh=>by cases hh),s2,Fr.of_heap p_ (λb' hb' hc=> ?_) s3 rfl rfl rfl⟩
        refine hhold b' λe=> ?_;subst e;rcases hc with hc |hc
        ·exact hnG hc
        ·exact hc ⟨id,i,h, .inl h3⟩
      |arrP z s=>exact E8j hsz hs hm (.ptr ad i h hle hvv) hr2 hv hp
      |_=>simp at hv
   |_=>simp at hv
end
section
variable {P:Program} {G:Nat->Prop} {w:World} {ob:Place} {m:Nat->Option A7}
structure Src (G:Nat->Prop) (w:World) (ob:Place) (esz:Nat) (t:Sq) (y:Value) (news:List Value):Prop where
 len:news.length=t.n*esz
 one: ∀u∈news,u.oneCell'=true
 glen: ∀k,k<t.n->(t.g k).length=esz
 rel: ∀(k j:Nat) (av:AV),k<t.n->(t.g k)[j]? =some av->av.pure=true/\ ∃u,news[k*esz+j]? =some u/\Rel G w ob av u
 val:(t.n=0/\y= .slice none 0 0)\/ ∃a c,y= .slice (some a) t.n c/\ ∀(j:Nat) (u:Value),news[j]? =some u->w.cell? (a.add j)=some u
variable {n esz:Nat} {g:Nat->List AV}
theorem B4q {b c:Nat}(hlen: ∀k,k<n->(g k).length=esz)
  (h: ∀(k j:Nat) (av:AV),k<n->(g k)[j]? =some av->av.pure=true/\ ∃u,w.cell? ⟨b,off+(k*esz+j),none⟩=some u/\Rel G w ob av u):
  ∃news,Src G w ob esz ⟨n,g⟩ (.slice (some ⟨b,off,none⟩) n c) news:=by
 have cell: ∀q,q<n*esz-> ∃u,w.cell? ⟨b,off+q,none⟩=some u/\u.oneCell'=true:=λq hq=>by
  have hpos:0<esz:=by grind
  have hk:q / esz<n:=(yZ hpos).2 hq
  have hj:q%esz<(g (q / esz)).length:=by rw[hlen _ hk];exact yF _ hpos
  obtain⟨h1,u,h2,h3⟩:=h (q / esz) (q%esz) _ hk (zg hj);have e:q / esz*esz+q%esz=q:=by rw[Nat.mul_comm];exact Nat.div_add_mod q esz
  rw[e]at h2;exact⟨u,h2,h3.one_cell (B2o h1)⟩
 refine⟨(List.range (n*esz)).map λq=>(w.cell? ⟨b,off+q,none⟩).getD undef,p_,λu hu=> ?_,hlen,λk j av hk hj=> ?_, .inr ⟨_,c,rfl,λj u hj=> ?_⟩⟩
 ·grind
 ·obtain⟨h1,u,h2,h3⟩:=h k j av hk hj;refine⟨h1,u,?_,h3⟩;have hjl:j<esz:=by
   grind
  have hq:k*esz+j<n*esz:=by have:(k+1)*esz<=n*esz:=zw _ hk;rw[qa]at this;omega
  simp[hq,h2]
 ·rw[A2c]
  grind
variable {p:Prop}
theorem B0g {b:AV}{t:Sq}{y:Value}(hs:E8 G w ob m)(h:Y2 m esz b=some (p,t))(hp:p)(hr:Rel G w ob b y): ∃news,Src G w ob esz t y news:=by
 have nilc: ∀g:Nat->List AV,∃news,Src G w ob esz ⟨0,g⟩ (.slice none 0 0) news:=λg=>⟨[],p_,λu hu=>by simp at hu,λk hk=>by simp at hk,λk j av hk=>by simp at hk, .inl ⟨rfl,rfl⟩⟩
 have nile: ∀(g:Nat->List AV) (a:Addr) (cap:Nat),∃news,Src G w ob esz ⟨0,g⟩ (.slice (some a) 0 cap) news:=λg a cap=>⟨[],p_,λu hu=>by simp at hu,λk hk=>by simp at hk,λk j av hk=>by simp at hk, .inr ⟨a,cap,rfl,λj u hj=>by simp at hj⟩⟩
 cases b with
 |sc u=>
  rw[hr.sc_eq];simp only[Y2]at h;split at h
  all_goals first
   |(rename_i heq;cases heq;done)
   |skip
  ·grind
  ·rename_i heq;simp only[AV.sc.injEq]at heq;subst heq;cases h;exact nile _ _ _
  ·cases h
 |dsl z n g=>
  simp only[Y2]at h;split at h
  ·rename_i hz;cases h;subst hz;cases hr with
   |dslNil=>exact nilc g
   |dslE a cap=>simp_all
   |dsl b off cap c hG hcap hlen hpp hc hrr=>
    exact B4q hlen λk j av hk hj=>⟨hpp k j av hk hj,c k j,hc k j hk (by grind),hrr k j av hk hj⟩
  ·cases h
 |dslx z n g=>
  simp only[Y2]at h;split at h
  ·rename_i hz;cases h;subst hz;cases hr with
   |dslxNil=>exact nilc g
   |dslxE a=>exact nile g a 0
   |dslx b off c hG hlen hpp hc hrr=>
    exact B4q hlen λk j av hk hj=>⟨hpp k j av hk hj,c k j,hc k j hk (by grind),hrr k j av hk hj⟩
  ·cases h
 |sl id off len tot=>
  have main: ∀(i:L4) (z:Nat) (s:Sq),ob id=some i->z=esz->tot=s.n->i.esz=z->i.len=s.n->(i.blk=none->s.n=0)->
    (∀b,i.blk=some b-> ∃arr T fz,w.heap[b]? =some (.cells arr T fz)/\B0l G w ob arr i.esz s)->Rel G w ob (.sl id off len tot) y-> ∃news,Src G w ob esz ⟨len,λi=>s.g (off+i)⟩ y news:=by
   intro i z s hi hz ht hiz hil hnb hrow hr;cases hr with
   |sl i' h' hle hs' hv=>
    rw[hi]at h';injection h' with h';subst h';obtain⟨h1,h2,h3⟩:=hv (by rw[hil,ht]);cases hb:i.blk with
    |none=>
     have:=hnb hb
     have hl0:len=0:=o_
     subst hl0;rcases h2 hb with rfl |⟨a,rfl⟩
     all_goals simp_all
    |some b=>
     obtain⟨o,c,rfl,hc,ho1,_⟩:=h3 b hb;obtain⟨arr,T,fz,hh,hin⟩:=hrow b hb;by_cases hl:len=0
     ·simp_all
     ·have:=ho1 o_
      subst this;refine B4q (λk hk=>by rw[<-hz,<-hiz];exact hin.1 _ o_) λk j av hk hj=> ?_;obtain⟨h5,u,h6,h7⟩:=hin.2 (off+k) j av o_ hj;refine⟨h5,u,?_,h7⟩;have e:off*i.esz+(k*esz+j)=(off+k)*i.esz+j:=by rw[qa,hiz,hz,yx]
      rw[e,cell_of_row w b _ arr T _ hh,h6]
  simp only[Y2]at h;cases hm:m id with
  |none=>simp[hm]at h
  |some obj=>
   cases hi:ob id with
   |none=>rw[(hs.dom id).2 hi]at hm;cases hm
   |some i=>
    have ho:=hs.own id obj i hm hi;rw[hm]at h;cases obj with
    |arr z s=>
     simp only at h;split at h
     ·rename_i hz;cases h;refine main i z s hi hz hp ho.2.1 ho.2.2.1 ho.arr_none (λb hb=> ?_) hr;rcases ho.2.2.2.2 with⟨h5,_⟩ |⟨b',arr,T,h5,h6,_,h7⟩
      all_goals grind
     ·cases h
    |frz z s=>
     simp only at h;split at h
     ·rename_i hz;cases h;refine main i z s hi hz hp ho.2.1 ho.2.2.1 ho.frz_none (λb hb=> ?_) hr;rcases ho.2.2.2.2 with⟨h5,_⟩ |⟨b',arr,T,fz,h5,_,h6,h7⟩
      all_goals grind
     ·cases h
    |_=>simp at h
 |_=>simp[Y2]at h
variable {t el ty:TypeId}
theorem C0k {z:Value}{i:TypeInfo}(ht:P.underlying t=some (.slice el))(hi:P.info? el=some i)(hz:i.zero=some z)
  {esz:Nat}(hsize:i.size=esz)(hzs:z.cells.size=esz){y:Value}{a:Addr}{n:Nat}{q:Sq}{news old:List Value}(hsrc:Src G w ob esz q y news)
  (h63:n+q.n<=maxLen)(hbytes:(n+q.n)*i.bytes<=140737488355328)
  (hlo:old.length=n*esz)(holds: ∀(j:Nat) (u:Value),old[j]? =some u->w.cell? (a.add j)=some u):
  (q.n=0/\(Builtin.append_ #[t,t] ty #[.slice (some a) n n,y]).run P w= .ok (.slice (some a) n n) w)\/
  (∃newCap row,q.n≠0/\n+q.n<=newCap/\row.size=newCap*esz/\(Builtin.append_ #[t,t] ty #[.slice (some a) n n,y]).run P w= .ok (.slice (some ⟨w.heap.size,0,none⟩) (n+q.n) newCap) (w.drew.alloc (.cells row el))/\
    (∀j,j<n*esz->row[j]? =old[j]?)/\ ∀j,j<q.n*esz->row[n*esz+j]? =news[j]?):=by
 subst hsize;have hlen:=hsrc.len
 have hb:=hbytes
 have h63':n+q.n<=9223372036854775807:=by simp only[maxLen]at h63;omega
 rcases hsrc.val with⟨hq0,rfl⟩ |⟨a2,c,rfl,hcells⟩
 ·refine .inl ⟨hq0,?_⟩;simp[Builtin.append_,run_underlying ht,sizeOf,typeInfo,hi,Builtin.lenOf,Builtin.firstCells,storeCells]
 ·by_cases hq0:q.n=0
  ·refine .inl ⟨hq0,?_⟩;rw[hq0];simp[Builtin.append_,run_underlying ht,sizeOf,typeInfo,hi,Builtin.lenOf,Builtin.firstCells,loadCells,loadCellsFrom,storeCells]
  ·have hr:=run_append_grow (P:=P) w t ty el i z ht hi hz a n n old hlo holds a2 q.n c news hlen hcells o_ o_ (growslice_fits o_ hbytes)
   refine .inr ⟨grownCap w (n+q.n) n el,_,hq0,grownCap_ge w (n+q.n) n el,?_,hr,λj hj=> ?_,λj hj=> ?_⟩
   ·have:=grownCap_ge w (n+q.n) n el
    simp only[yU,yI,hlo,hlen,size_zeroCells,hzs,<-qa];congr 1;omega
   all_goals grind
theorem A79 {z:Value}{i:TypeInfo}(ht:P.underlying t=some (.slice el))(hi:P.info? el=some i)(hz:i.zero=some z)
  {esz:Nat}(hsize:i.size=esz)(hzs:z.cells.size=esz){x y:Value}{n:Nat}{q:Sq}{news:List Value}(hsrc:Src G w ob esz q y news)
  (h63:n+q.n<=maxLen)(hbytes:(n+q.n)*i.bytes<=140737488355328)
  (hx:((x= .slice none 0 0\/ ∃a,x= .slice (some a) 0 0)/\n=0)\/ ∃b cap arr T,x= .slice (some ⟨b,0,none⟩) n cap/\w.heap[b]? =some (.cells arr T (0,0))/\n<=cap/\arr.size=cap*esz):
  (q.n=0/\(Builtin.append_ #[t,t] ty #[x,y]).run P w= .ok x w)\/
  (∃b cap arr T,q.n≠0/\x= .slice (some ⟨b,0,none⟩) n cap/\w.heap[b]? =some (.cells arr T (0,0))/\n+q.n<=cap/\
    (Builtin.append_ #[t,t] ty #[x,y]).run P w= .ok (.slice (some ⟨b,0,none⟩) (n+q.n) cap) (w.setRow b (stored arr (n*esz) news)))\/
  (∃newCap row,q.n≠0/\n+q.n<=newCap/\row.size=newCap*esz/\(Builtin.append_ #[t,t] ty #[x,y]).run P w= .ok (.slice (some ⟨w.heap.size,0,none⟩) (n+q.n) newCap) (w.drew.alloc (.cells row el))/\
    (∀j,j<n*esz-> ∀b cap arr T,x= .slice (some ⟨b,0,none⟩) n cap->w.heap[b]? =some (.cells arr T (0,0))->row[j]? =arr[j]?)/\ ∀j,j<q.n*esz->row[n*esz+j]? =news[j]?):=by
 by_cases hxe: ∃a,x= .slice (some a) 0 0/\n=0
 ·obtain⟨a,rfl,rfl⟩:=hxe;rcases C0k (ty:=ty) ht hi hz hsize hzs (a:=a) (n:=0) (old:= []) hsrc h63 hbytes p_ (λj u hj=>by simp at hj)with h |⟨nc,row,h1,h2,h3,h4,h5,h6⟩
  all_goals grind
 replace hx:(x= .slice none 0 0/\n=0)\/ ∃b cap arr T,x= .slice (some ⟨b,0,none⟩) n cap/\w.heap[b]? =some (.cells arr T (0,0))/\n<=cap/\arr.size=cap*esz:=by grind
 subst hsize;have hlen:=hsrc.len
 have hb:=hbytes
 have h63':n+q.n<=9223372036854775807:=by simp only[maxLen]at h63;omega
 rcases hsrc.val with⟨hq0,rfl⟩ |⟨a,c,rfl,hcells⟩
 ·
  refine .inl ⟨hq0,?_⟩;rcases hx with⟨rfl,rfl⟩ |⟨b,cap,arr,T,rfl,hg,hnc,_⟩
  ·simp[Builtin.append_,run_underlying ht,sizeOf,typeInfo,hi,Builtin.lenOf,Builtin.firstCells]
  ·simp[Builtin.append_,run_underlying ht,sizeOf,typeInfo,hi,Builtin.lenOf,Builtin.firstCells,hnc,storeCells]
 ·by_cases hq0:q.n=0
  ·refine .inl ⟨hq0,?_⟩;rw[hq0];rcases hx with⟨rfl,rfl⟩ |⟨b,cap,arr,T,rfl,hg,hnc,_⟩
   ·simp[Builtin.append_,run_underlying ht,sizeOf,typeInfo,hi,Builtin.lenOf,Builtin.firstCells,loadCells,loadCellsFrom]
   ·simp[Builtin.append_,run_underlying ht,sizeOf,typeInfo,hi,Builtin.lenOf,Builtin.firstCells,loadCells,loadCellsFrom,hnc,storeCells]
  ·rcases hx with⟨rfl,rfl⟩ |⟨b,cap,arr,T,rfl,hg,hnc,hsz⟩
   ·refine .inr (.inr ⟨grownCap w q.n 0 el,news.toArray++Builtin.zeroCells z.cells (grownCap w q.n 0 el-q.n),hq0,?_,?_,?_,(λj hj=>by simp at hj),λj hj=> ?_⟩)
    ·have:=grownCap_ge w q.n 0 el;omega
    ·have:=grownCap_ge w q.n 0 el
     simp only[yU,yI,hlen,size_zeroCells,hzs,<-qa];congr 1;omega
    ·have hr:=run_append_nil (P:=P) w t ty el i z ht hi hz a q.n c news hlen hcells o_ o_ (by simp only[qk]at hb;omega)
     simpa using hr
    grind
   ·by_cases hroom:n+q.n<=cap
    ·refine .inr (.inl ⟨b,cap,arr,T,hq0,rfl,hg,hroom,?_⟩);have hfit:n*i.size+news.length<=arr.size:=by rw[hlen,hsz,<-qa];exact zw _ hroom
     have hf:=run_firstCells_some (P:=P) w i.size q.n a q.n c news hlen hcells
     have hst:=run_storeCells_at P b (n*i.size) T news 0 arr w hg (by simpa using hfit) hsrc.one;simp only[Nat.add_zero]at hst;simp[Builtin.append_,run_underlying ht,sizeOf,typeInfo,hi,Builtin.lenOf,hroom,hf,Addr.add_lit,hst,stored]
    ·have holds: ∀(j:Nat) (u:Value),(arr.toList.take (n*i.size))[j]? =some u->w.cell? ((⟨b,0,none⟩:Addr).add j)=some u:=λj u hj=>by
      rw[A2c,qk,cell_of_row w b j arr T _ hg]
      grind
     have hlo:(arr.toList.take (n*i.size)).length=n*i.size:=by simp_all
     have hr:=run_append_grow (P:=P) w t ty el i z ht hi hz ⟨b,0,none⟩ n cap (arr.toList.take (n*i.size)) hlo holds a q.n c news hlen hcells o_ o_ (growslice_fits o_ hbytes);refine .inr (.inr ⟨grownCap w (n+q.n) cap el,_,hq0,grownCap_ge w (n+q.n) cap el,?_,hr,λj hj b' cap' arr' T' hxe hg'=> ?_,λj hj=> ?_⟩)
     ·have:=grownCap_ge w (n+q.n) cap el
      simp only[yU,yI,hlo,hlen,size_zeroCells,hzs,<-qa];congr 1;omega
     all_goals grind
end
section
variable {P:Program} {G:Nat->Prop} {w:World} {ob:Place} {m:Nat->Option A7}
variable {esz:Nat} {news:List Value}
theorem Src.relD {t:Sq}{y:Value}(h:Src G w ob esz t y news){k j:Nat}{av:AV}(hk:k<t.n)(hj:(t.g k)[j]? =some av):
  j<esz/\av.pure=true/\ ∃u,news[k*esz+j]? =some u/\Rel G w ob av u:=by
 refine⟨?_,h.rel k j av hk hj⟩;rw[<-h.glen k hk];grind
variable {n j:Nat}
theorem A2y(hk:k<n)(hj:j<esz):k*esz+j<n*esz:=by have:(k+1)*esz<=n*esz:=zw _ hk;rw[qa]at this;omega
variable {t el:TypeId} {g:Nat->List AV} {ty:TypeId} {bytes:Nat}
theorem D7g {i:TypeInfo}{z:Value}{cs:Array Bool}{xv yv:Value}{tq:Sq}
  (ht:P.underlying t=some (.slice el))(hi:P.info? el=some i)(hz:i.zero=some z)(hsize:i.size=esz)(hby:i.bytes=bytes)(hzs:z.cells.size=esz)
  (hs:E8 G w ob m)(hbi:(builtin .append #[t,t] ty cs #[xv,yv]).run P w=((Builtin.append_ #[t,t] ty #[xv,yv]).run P w).andThen λv w'=> .ok (.value v) w')
  (hr:Rel G w ob (.dslx esz n g) xv)(hS:Src G w ob esz tq yv news)(hb1:(n+tq.n)*bytes<=140737488355328)(hb2:n+tq.n<=maxLen):
  E6 P G w ob m (builtin .append #[t,t] ty cs #[xv,yv]) ⟨some (.dsl esz (n+tq.n) (Sq.app ⟨n,g⟩ tq).g),[]⟩:=by
 have hx: ∃(old:List Value),((xv= .slice none 0 0/\n=0)\/ ∃a,xv= .slice (some a) n n/\ ∀(j:Nat) (u:Value),old[j]? =some u->w.cell? (a.add j)=some u)/\old.length=n*esz/\
   (∀k,k<n->(g k).length=esz)/\ ∀(k j:Nat) (av:AV),k<n->(g k)[j]? =some av->av.pure=true/\ ∃u,old[k*esz+j]? =some u/\Rel G w ob av u:=by
  cases hr with
  |dslxNil=>simp_all
  |dslxE a=>simp_all
  |dslx b off c hG hlen hpp hc hrr=>
   obtain⟨old,hO⟩:=B4q (G:=G) (w:=w) (ob:=ob) (b:=b) (off:=off) (c:=n) hlen λk j av hk hj=>⟨hpp k j av hk hj,c k j,hc k j hk (by grind),hrr k j av hk hj⟩
   refine⟨old, .inr ⟨_,rfl,?_⟩,hO.len,hO.glen,hO.rel⟩;rcases hO.val with⟨_,h⟩ |⟨a,c',h,h'⟩
   all_goals simp_all
 obtain⟨old,hxv,hol,hgl,hrel⟩:=hx;have fresh: ∀nc (row:Array Value),n+tq.n<=nc->(∀j,j<n*esz->row[j]? =old[j]?)->(∀j,j<tq.n*esz->row[n*esz+j]? =news[j]?)->
   (Builtin.append_ #[t,t] ty #[xv,yv]).run P w= .ok (.slice (some ⟨w.heap.size,0,none⟩) (n+tq.n) nc) (w.drew.alloc (.cells row el))->
   E6 P G w ob m (builtin .append #[t,t] ty cs #[xv,yv]) ⟨some (.dsl esz (n+tq.n) (Sq.app ⟨n,g⟩ tq).g),[]⟩:=by
  intro nc row hnc hold hnew hrun;rw[hrun]at hbi;have hhold: ∀b,b<w.heap.size->(w.drew.alloc (.cells row el)).heap[b]? =w.heap[b]? :=λb hb=>heap_alloc_old w.drew _ _ hb
  have hGw: ∀b,G b->(w.drew.alloc (.cells row el)).heap[b]? =w.heap[b]? :=λb hG=>hhold b (hs.lt b hG);refine⟨λb=>G b\/b=w.heap.size,w.drew.alloc (.cells row el),ob, .slice (some ⟨w.heap.size,0,none⟩) (n+tq.n) nc, .inl hbi,⟨hs.dom,hs.inj,?_,?_,?_⟩,λav hav=> ?_,D4.refl ob,⟨p_,λb hb _=>hhold b hb,λb hb=> .inl hb,λb hb=> .inl hb,?_,rfl,rfl,rfl,by simp_all⟩⟩
  ·rintro b (hb |rfl)
   ·have:=hs.lt b hb;simp;omega
   ·simp
  ·intro id o inf hm' hi';have ho:=hs.own id o inf hm' hi';exact ho.ext (λb hb=> .inl hb) hGw (D4.refl ob) λb hb=>hhold b (ho.has_lt hb)
  ·intro id o inf b hm' hown hi' hb hG;rcases hG with hG |rfl
   ·exact hs.sep id o inf b hm' hown hi' hb hG
   ·have:=(hs.own id o inf hm' hi').has_lt hb;omega
  ·injection hav with hav;subst hav;have lk: ∀k,k<n+tq.n->((Sq.app ⟨n,g⟩ tq).g k).length=esz:=λk hk=>by
    simp only[Sq.app];split
    ·exact hgl k ‹_›
    ·exact hS.glen _ o_
   have cellR: ∀k j av,k<n+tq.n->((Sq.app ⟨n,g⟩ tq).g k)[j]? =some av->av.pure=true/\ ∃u,row[k*esz+j]? =some u/\Rel G w ob av u:=by
    intro k j av hk hj;have hjl:j<esz:=by grind
    simp only[Sq.app]at hj;split at hj
    ·grind
    ·rename_i hk1;obtain⟨c0,c1,u,c2,c3⟩:=hS.relD (k:=k-n) o_ hj;have hlt:=A2y (n:=tq.n) (k:=k-n) o_ c0;refine⟨c1,u,?_,c3⟩;have hge:n*esz<=k*esz:=zw _ o_
     have hsub:(k-n)*esz=k*esz-n*esz:=xl _ _ _
     grind
   refine .dsl w.heap.size 0 nc (λk j=>(row[k*esz+j]?).getD undef) (.inr rfl) hnc lk (λk j av hk hj=>(cellR k j av hk hj).1) (λk j hk hj=> ?_) (λk j av hk hj=> ?_)
   ·obtain⟨_,u,hu,_⟩:=cellR k j _ hk (zg (by rw[lk k hk];exact hj));have hnc':(w.drew.alloc (.cells row el)).heap[w.heap.size]? =some (.cells row el (0,0)):=heap_alloc_new w.drew _;rw[qk,cell_of_row _ w.heap.size _ row el _ hnc',hu];rfl
   ·obtain⟨_,u,hu,hre⟩:=cellR k j av hk hj;rw[hu];exact hre.ext (λb hb=> .inl hb) hGw (D4.refl ob)
  grind
 rcases hxv with⟨rfl,rfl⟩ |⟨a,rfl,holds⟩
 ·rcases A79 (ty:=ty) ht hi hz hsize hzs hS (x:= .slice none 0 0) (n:=0) hb2 (by rw[hby];exact hb1) (.inl ⟨.inl rfl,rfl⟩)with⟨h0,hrun⟩ |⟨b,cap,arr,T,_,hxe,_⟩ |⟨nc,row,_,hnc,hrow,hrun,_,hnew⟩
  ·rw[hrun]at hbi;refine E6.quiet hs (v:= .slice none 0 0) hbi ?_;rw[h0];exact .dslNil
  all_goals grind
 ·rcases C0k (ty:=ty) ht hi hz hsize hzs hS hb2 (by rw[hby];exact hb1) hol holds with⟨h0,hrun⟩ |⟨nc,row,_,hnc,hrow,hrun,hold,hnew⟩
  ·rw[hrun]at hbi;refine E6.quiet hs (v:= .slice (some a) n n) hbi ?_;rw[h0,Nat.add_zero];cases hr with
   |dslxE a=>exact .dslE a _
   |dslx b off c hG hlen hpp hc hrr=>
    refine .dsl b off n c hG (ze n) (λk hk=> ?_) (λk j av hk hj=> ?_) hc (λk j av hk hj=> ?_)
    all_goals(try simp only[Sq.app]at hj);(try simp only[Sq.app])
    all_goals grind
  grind
variable {tot:Nat}
theorem E1s {i:TypeInfo}{z:Value}{zz id:Nat}{cs:Array Bool}{xv yv:Value}{tq:Sq}
  (ht:P.underlying t=some (.slice el))(hi:P.info? el=some i)(hz:i.zero=some z)(hsize:i.size=zz)(hby:i.bytes=bytes)(hzs:z.cells.size=zz)
  (hs:E8 G w ob m)(hm:m id=some (.arrP zz s))(hbi:(builtin .append #[t,t] ty cs #[xv,yv]).run P w=((Builtin.append_ #[t,t] ty #[xv,yv]).run P w).andThen λv w'=> .ok (.value v) w')
  (hr:Rel G w ob (.sl id 0 s.n tot) xv)(hS:Src G w ob zz tq yv news)(htot:tot=s.n)(hb1:(s.n+tq.n)*bytes<=140737488355328)(hb2:s.n+tq.n<=maxLen):
  E6 P G w ob m (builtin .append #[t,t] ty cs #[xv,yv]) ⟨some (.sl id 0 (s.n+tq.n) (s.n+tq.n)),[(id, .arrP zz (s.app tq))]⟩:=by
 cases hr with
 |sl inf hi' hle hss hvv=>
  obtain⟨hz1,hl1,hc1,pp,hkind,hrow⟩:=hs.own id _ inf hm hi';obtain⟨_,hvn,hvs⟩:=hvv (by rw[hl1,htot]);have hp': ∀x,inf.has x↔inf.blk=some x\/pp x:=λx=>L4.has_priv hkind x
  have hxcase:((xv= .slice none 0 0\/ ∃a,xv= .slice (some a) 0 0)/\s.n=0/\inf.blk=none/\inf.cap=0/\ ∀x,¬pp x)\/ ∃b arr T β,inf.blk=some b/\xv= .slice (some ⟨b,0,none⟩) s.n inf.cap/\w.heap[b]? =some (.cells arr T (0,0))/\arr.size=inf.cap*zz/\A7y G w ob arr zz s β/\C1w b s.n zz pp β:=by grind
  have hA:=A79 (ty:=ty) ht hi hz hsize hzs hS (x:=xv) (n:=s.n) hb2 (by rw[hby];exact hb1) (by grind)
  have hgapp: ∀k,k<s.n+tq.n->((s.app tq).g k).length=zz:=λk hk=>by
   simp only[Sq.app];split
   ·rename_i hk1;rcases hxcase with⟨_,h2,_⟩ |⟨b,arr,T,β,_,_,_,_,h6,_⟩
    ·omega
    ·exact h6.1 k hk1
   ·exact hS.glen _ o_
  have mk: ∀(w':World) (ob':Place) (b:Nat) (row:Array Value) (β:Nat->Nat->Option Nat),D4 ob ob'->(∀q,G q->w'.heap[q]? =w.heap[q]?)->(∀q,pp q->w'.heap[q]? =w.heap[q]?)->
    ((∀x,¬pp x)/\s.n=0\/ ∃arr b0,A7y G w ob arr zz s β/\C1w b0 s.n zz pp β/\ ∀k j,k<s.n->j<zz->row[k*zz+j]? =arr[k*zz+j]?)-> ¬pp b->
    (∀j,j<tq.n*zz->row[s.n*zz+j]? =news[j]?)->
    ∃β',A7y G w' ob' row zz (s.app tq) β'/\C1w b (s.n+tq.n) zz pp β':=by
   intro w' ob' b row β hob hGw hpw hold hnb hnew;refine⟨λk j=>if k<s.n then β k j else none,⟨hgapp,λk j av hk hj=> ?_⟩,?_⟩
   ·simp only[Sq.app]at hk hj;split at hj
    ·rename_i hk1;rcases hold with⟨_,h0⟩ |⟨arr,b0,h5,h6,h7⟩
     ·omega
     ·obtain⟨v,hv,hcl⟩:=h5.2 k j av hk1 hj;have hjl:j<zz:=by
       rw[<-h5.1 k hk1];grind
      refine⟨v,by rw[h7 k j hk1 hjl];exact hv,?_⟩;show A9o G w' ob' (if k<s.n then β k j else none) av v;rw[zc hk1];exact hcl.ext (λ_ h=>h) hGw hob λx hx=>hpw x (h6.sub k j x hk1 hjl hx)
    ·rename_i hk1;obtain⟨c0,c1,u,c2,c3⟩:=hS.relD (k:=k-s.n) o_ hj;have hlt:=A2y (n:=tq.n) (k:=k-s.n) o_ c0
     have hge:s.n*zz<=k*zz:=zw _ o_
     have hsub:(k-s.n)*zz=k*zz-s.n*zz:=xl _ _ _
     have e1:k*zz+j=s.n*zz+((k-s.n)*zz+j):=o_
     refine⟨u,by rw[e1,hnew _ hlt];exact c2,?_⟩;show A9o G w' ob' (if k<s.n then β k j else none) av u;rw[zb hk1];have hrel:=c3.ext (G':=G) (w':=w') (λ_ h=>h) hGw hob;cases av with
     |own=>simp[AV.pure]at c1
     |hole=>simp[AV.pure]at c1
     |_=>exact⟨c1,rfl,hrel⟩
   ·refine⟨λk j x hk hj hx=> ?_,λx hx=> ?_,λk j k' j' x hk hj hk' hj' hx hx'=> ?_,hnb⟩
    ·split at hx
     ·rename_i hk1;rcases hold with⟨_,h0⟩ |⟨arr,b0,h5,h6,h7⟩
      ·omega
      ·exact h6.sub k j x hk1 hj hx
     ·cases hx
    ·rcases hold with⟨h0,_⟩ |⟨arr,b0,h5,h6,h7⟩
     ·exact absurd hx (h0 x)
     ·obtain⟨k,j,hk,hj,hx2⟩:=h6.all x hx
      grind
    ·split at hx
     ·split at hx'
      ·rcases hold with⟨_,h0⟩ |⟨arr,b0,h5,h6,h7⟩
       ·omega
       ·exact h6.inj k j k' j' x (by assumption) hj (by assumption) hj' hx hx'
      ·cases hx'
     ·cases hx
  rcases hA with⟨h0,hrun⟩ |⟨b,cap,arr,T,hqne,hxe,hg,hcap,hrun⟩ |⟨nc,row,hq0,hnc,hrow',hrun,hold,hnew⟩
  ·
   rw[hrun]at hbi;have hup:upd ob id (some inf)=ob:=A4b hi'
   have hsq: ∀k,k<s.n->(s.app tq).g k=s.g k:=λk hk=>by simp[Sq.app,hk]
   obtain⟨s1,s2,s3⟩:=hs.updateP (w':=w) id (.arrP zz (s.app tq)) inf (ze _) (λ_ _ _=>rfl) (λj hj=>by simp_all)
    (λb hb=> .inl ⟨inf,hi',hb⟩) (λ_ _ _ _ _=>rfl) (by
      rw[hup];refine⟨hz1,by simp[Sq.app,h0,hl1],by simp[Sq.app,h0,hc1],pp,hkind,?_⟩;rcases hrow with⟨h1,h2,h3,h4⟩ |⟨b,arr,T,β,h1,h2,h3,h4,h5⟩
      ·exact .inl ⟨h1,by simp[Sq.app,h0,h2],h3,h4⟩
      ·refine .inr ⟨b,arr,T,β,h1,h2,h3,⟨λk hk=> ?_,λk j av hk hj=> ?_⟩,by simpa[Sq.app,h0]using h5⟩
       ·simp only[Sq.app,h0,Nat.add_zero]at hk⊢;rw[zc hk];exact h4.1 k hk
       ·simp only[Sq.app,h0,Nat.add_zero]at hk hj;rw[zc hk]at hj;exact h4.2 k j av hk hj)
    (λ_ b hb=>hs.sep id _ inf b hm rfl hi' hb)
   refine⟨G,w,_,xv, .inl hbi,s1,(λav hav=> ?_),s2,Fr.of_heap (ze _) (λ_ _ _=>rfl) s3 rfl rfl rfl⟩;injection hav with hav;subst hav;rw[hup,h0,Nat.add_zero];exact .sl inf hi' o_ hss (λ_=>⟨o_,hvn,hvs⟩)
  ·
   rcases hxcase with⟨hn0',hn0,hb0,hc0,_⟩ |⟨b',arr',T',β,h1,h2,h3,h4,h5,h6⟩
   ·simp_all
   rw[h2]at hxe;simp only[Value.slice.injEq,za,Addr.mk.injEq,qV,qo]at hxe;obtain⟨rfl,rfl⟩:=hxe;rw[h3]at hg;simp only[za,Obj.cells.injEq,qV]at hg;obtain⟨rfl,rfl⟩:=hg;rw[hrun]at hbi;have hfit:s.n*zz+news.length<=arr'.size:=by rw[hS.len,h4,<-qa];exact zw _ hcap
   have hnG: ¬G b':=hs.sep id _ inf b' hm rfl hi' (.inl h1)
   have hhold: ∀q,q≠b'->(w.setRow b' (stored arr' (s.n*zz) news)).heap[q]? =w.heap[q]? :=λq hk=>setRow_other w b' q _ hk
   have hGw: ∀q,G q->(w.setRow b' (stored arr' (s.n*zz) news)).heap[q]? =w.heap[q]? :=λq hG=>hhold q (λe=>hnG (e▸hG))
   have hi2:(⟨some b',zz,s.n+tq.n,inf.cap, .priv pp⟩:L4)=inf\/(∃p q,inf.kind= .priv p/\(⟨some b',zz,s.n+tq.n,inf.cap, .priv pp⟩:L4)= {inf with kind:=q})\/(inf.len<(⟨some b',zz,s.n+tq.n,inf.cap, .priv pp⟩:L4).len/\inf.kind≠ .map):=by grind
   have hob:D4 ob (upd ob id (some ⟨some b',zz,s.n+tq.n,inf.cap, .priv pp⟩)):=λq j hj=>by
    by_cases hq:q=id
    ·simp_all
    ·exact⟨j,by rw[J0 hq];exact hj, .inl rfl⟩
   obtain⟨β',hβ1,hβ2⟩:=mk (w.setRow b' (stored arr' (s.n*zz) news)) _ b' (stored arr' (s.n*zz) news) β hob hGw (λq hq=>hhold q λe=>h6.ne (e▸hq)) (.inr ⟨arr',b',h5,h6,λk j hk hj=>by
     rw[A5m _ _ _ hfit];have:=A2y hk hj;rw[zb o_]⟩) h6.ne (λj hj=>by
     rw[A5m _ _ _ hfit,hS.len,zc ⟨o_,o_⟩];congr 1;omega)
   obtain⟨s1,s2,s3⟩:=hs.updateP (w':=w.setRow b' (stored arr' (s.n*zz) news)) id (.arrP zz (s.app tq)) ⟨some b',zz,s.n+tq.n,inf.cap, .priv pp⟩ p_
    (λq _ hne=>hhold q (λe=>hne inf hi' (.inl (by rw[h1,e])))) (λj hj=>by simp_all)
    (λq hq=> .inl ⟨inf,hi',by
      rcases hq with hq |hq
      ·exact .inl (by rw[h1];exact hq)
      ·exact(hp' q).2 (.inr hq)⟩) (λj hj q hq hG=>hGw q hG)
    ⟨rfl,rfl,hcap,pp,rfl, .inr ⟨b',_,T',β',rfl,A0y h3,by rw[A4q _ _ _ hfit,h4],hβ1,hβ2⟩⟩
    (λ_ q hq=>by
      rcases hq with hq |hq
      ·simp_all
      ·exact hs.sep id _ inf q hm rfl hi' ((hp' q).2 (.inr hq)))
   refine⟨G,w.setRow b' (stored arr' (s.n*zz) news),_, .slice (some ⟨b',0,none⟩) (s.n+tq.n) inf.cap, .inl hbi,s1,(λav hav=> ?_),s2,Fr.of_heap p_ (λq hq hc=> ?_) s3 rfl rfl rfl⟩
   ·injection hav with hav;subst hav;refine .sl ⟨some b',zz,s.n+tq.n,inf.cap, .priv pp⟩ p_ (ze _) ⟨_,_,rfl⟩ λ_=>⟨p_,λh=>by simp at h,λq hq=> ?_⟩
    grind
   ·refine hhold q λe=> ?_;subst e;rcases hc with hc |hc
    ·exact hnG hc
    ·exact hc ⟨id,inf,hi', .inl h1⟩
  ·
   rw[hrun]at hbi;have hGw: ∀q,G q->(w.drew.alloc (.cells row el)).heap[q]? =w.heap[q]? :=λq hG=>heap_alloc_old w.drew _ _ (hs.lt q hG)
   have hplt: ∀q,pp q->q<w.heap.size:=λq hq=>(hs.own id _ inf hm hi').has_lt ((hp' q).2 (.inr hq))
   have hi2:inf.len<(⟨some w.heap.size,zz,s.n+tq.n,nc, .priv pp⟩:L4).len/\inf.kind≠ .map:=⟨by simp only;omega,by rw[hkind];simp⟩
   have hob:D4 ob (upd ob id (some ⟨some w.heap.size,zz,s.n+tq.n,nc, .priv pp⟩)):=λq j hj=>by
    by_cases hq:q=id
    ·subst hq;rw[hi']at hj;injection hj with hj;subst hj;exact⟨_,p_, .inr (.inr hi2)⟩
    ·exact⟨j,by rw[J0 hq];exact hj, .inl rfl⟩
   have hmk: ∃β',A7y G (w.drew.alloc (.cells row el)) (upd ob id (some ⟨some w.heap.size,zz,s.n+tq.n,nc, .priv pp⟩)) row zz (s.app tq) β'/\C1w w.heap.size (s.n+tq.n) zz pp β':=by
    rcases hxcase with⟨_,h2,_,_,h3⟩ |⟨b',arr',T',β,h1,h2,h3,h4,h5,h6⟩
    ·exact mk _ _ _ row (λ_ _=>none) hob hGw (λq hq=>absurd hq (h3 q)) (.inl ⟨h3,h2⟩) (h3 _) hnew
    ·exact mk _ _ _ row β hob hGw (λq hq=>heap_alloc_old w.drew _ _ (hplt q hq)) (.inr ⟨arr',b',h5,h6,λk j hk hj=>hold _ (A2y hk hj) b' _ arr' T' h2 h3⟩) (λh=>Nat.lt_irrefl _ (hplt _ h)) hnew
   obtain⟨β',hβ1,hβ2⟩:=hmk;obtain⟨s1,s2,s3⟩:=hs.updateP (w':=w.drew.alloc (.cells row el)) id (.arrP zz (s.app tq)) ⟨some w.heap.size,zz,s.n+tq.n,nc, .priv pp⟩ p_
    (λq hq _=>heap_alloc_old w.drew _ _ hq) (λj hj=>by rw[hi']at hj;injection hj with hj;exact .inr (.inr (hj▸hi2)))
    (λq hq=>by
      rcases hq with hq |hq
      ·exact .inr (by simp only[za]at hq;omega)
      ·exact .inl ⟨inf,hi',(hp' q).2 (.inr hq)⟩) (λj hj q hq hG=>hGw q hG)
    ⟨rfl,rfl,hnc,pp,rfl, .inr ⟨w.heap.size,row,el,β',rfl,heap_alloc_new w.drew _,hrow',hβ1,hβ2⟩⟩
    (λ_ q hq hG=>by
      rcases hq with hq |hq
      ·simp only[za]at hq;have:=hs.lt q hG;omega
      ·exact hs.sep id _ inf q hm rfl hi' ((hp' q).2 (.inr hq)) hG)
   refine⟨G,w.drew.alloc (.cells row el),_, .slice (some ⟨w.heap.size,0,none⟩) (s.n+tq.n) nc, .inl hbi,s1,(λav hav=> ?_),s2,Fr.of_heap p_ (λq hq hc=>heap_alloc_old w.drew _ _ hq) s3 rfl rfl rfl⟩;injection hav with hav;subst hav;refine .sl ⟨some w.heap.size,zz,s.n+tq.n,nc, .priv pp⟩ p_ (ze _) ⟨_,_,rfl⟩ λ_=>⟨p_,λh=>by simp at h,λq hq=> ?_⟩
   grind
variable {p:Prop} {r:Res} {d:Nat} {ρ:Operand->Value} {x:Operand} {ax:AX} {y:Operand} {ay:AX}
theorem E79 {i:TypeInfo}{z:Value}{cs:Array Bool}{e:AX->Option AV}
  (ht:P.underlying t=some (.slice el))(hi:P.info? el=some i)(hz:i.zero=some z)(hsize:i.size=esz)(hby:i.bytes=bytes)(hzs:z.cells.size=esz)
  (hs:E8 G w ob m)(hx:cx x=some ax)(hy:cx y=some ay)(he:O0 G w ob ρ e)(hv:eval (.append esz bytes ax ay) e m d=some (p,r))(hp:p):
  E6 P G w ob m (builtin .append #[t,t] ty cs #[ρ x,ρ y]) r:=by
 simp only[eval]at hv;have hbi:(builtin .append #[t,t] ty cs #[ρ x,ρ y]).run P w=((Builtin.append_ #[t,t] ty #[ρ x,ρ y]).run P w).andThen λv w'=> .ok (.value v) w':=by simp[builtin]
 cases hay:e ay with
 |none=>simp_all
 |some b=>
  have hr2:=he y ay b hy hay;cases hax:e ax with
  |none=>simp[hax]at hv
  |some a=>
   have hr:=he x ax a hx hax;rw[hax,hay]at hv;split at hv
   ·
    rename_i b' h1 h2;simp only[za]at h1 h2;subst h1;subst h2;rw[hr.sc_eq]at hbi;rw[hr.sc_eq];split at hv
    case h_2=>cases hv
    rename_i p' tq hm hsrc;cases hv;obtain⟨hp',hb1,hb2⟩:=hp;obtain⟨news,hS⟩:=B0g hs hsrc hp' hr2;have hno:ob (nid d)=none:=(hs.dom _).1 hm;rcases A79 (ty:=ty) ht hi hz hsize hzs hS (x:= .slice none 0 0) (n:=0) (by simpa using hb2) (by simp_all) (.inl ⟨.inl rfl,rfl⟩)with⟨h0,hrun⟩ |⟨b,cap,arr,T,_,hxe,_⟩ |⟨nc,row,_,hnc,hrow,hrun,_,hnew⟩
    ·
     rw[hrun]at hbi;have hext:D4 ob (upd ob (nid d) (some ⟨none,esz,0,0, .cells⟩)):=λq j hj=>⟨j,by rw[J0 (λe=>by subst e;rw[hno]at hj;cases hj)];exact hj, .inl rfl⟩;obtain⟨s1,s2,s3⟩:=hs.update (w':=w) (nid d) (.arr esz tq) ⟨none,esz,0,0, .cells⟩ (ze _) (λ_ _ _=>rfl) (λj hj=>by rw[hno]at hj;cases hj)
      (λb hb=>by cases hb) (λj hj=>by rw[hno]at hj;cases hj) ⟨rfl,rfl,h0.symm,by simp[h0], .inl ⟨rfl,h0,rfl⟩⟩ (λ_ b hb=>by cases hb) (λo0 h0=>by rw[hm]at h0;cases h0)
     refine⟨G,w,_, .slice none 0 0, .inl hbi,s1,(λav hav=> ?_),s2,Fr.of_heap (ze _) (λ_ _ _=>rfl) s3 rfl rfl rfl⟩;injection hav with hav;subst hav;rw[h0];exact .sl ⟨none,esz,0,0, .cells⟩ p_ (ze _) ⟨_,_,rfl⟩ λ_=>⟨p_,λ_=> .inl rfl,λb hb=>by cases hb⟩
    ·cases hxe
    ·rw[hrun]at hbi;simp only[qk,xd]at hbi hnc hnew;have hext:D4 ob (upd ob (nid d) (some ⟨some w.heap.size,esz,tq.n,nc, .cells⟩)):=λq j hj=>⟨j,by rw[J0 (λe=>by subst e;rw[hno]at hj;cases hj)];exact hj, .inl rfl⟩
     have hGw: ∀b,G b->(w.drew.alloc (.cells row el)).heap[b]? =w.heap[b]? :=λb hG=>heap_alloc_old w.drew _ _ (hs.lt b hG);refine E6.new (w0:=w.drew) (i:=⟨some w.heap.size,esz,tq.n,nc, .cells⟩) hs hm rfl rfl rfl rfl hbi (λb hb=>by simpa using hb.symm) ?_ ?_
     ·refine⟨rfl,rfl,rfl,hnc, .inr ⟨w.heap.size,row,el,rfl,heap_alloc_new w.drew _,hrow,hS.glen,λk j av hk hj=> ?_⟩⟩;obtain⟨h1,h2,u,h3,h4⟩:=hS.relD hk hj;exact⟨h2,u,by rw[hnew _ (A2y hk h1)];exact h3,h4.ext (λ_ h=>h) hGw hext⟩
     ·refine .sl ⟨some w.heap.size,esz,tq.n,nc, .cells⟩ p_ (ze _) ⟨_,_,rfl⟩ λ_=>⟨p_,λh=>by simp at h,λb hb=> ?_⟩
      grind
   ·
    rename_i zz n g b' h1 h2;simp only[za]at h1 h2;subst h1;subst h2;split at hv
    case h_2=>cases hv
    rename_i p' tq hsrc;split at hv
    case isFalse=>cases hv
    rename_i hze;subst hze;cases hv;obtain⟨hp',hb1,hb2⟩:=hp;obtain⟨news,hS⟩:=B0g hs hsrc hp' hr2;exact D7g ht hi hz hsize hby hzs hs hbi hr hS hb1 hb2
   ·
    rename_i id off n tot b' h1 h2;simp only[za]at h1 h2;subst h1;subst h2;split at hv
    case h_3=>cases hv
    case h_2=>
     rename_i zz s p' tq hm hsrc;split at hv
     case isFalse=>cases hv
     rename_i hze;subst hze;cases hv;obtain⟨hp',rfl,rfl,htot,hb1,hb2⟩:=hp;obtain⟨news,hS⟩:=B0g hs hsrc hp' hr2;exact E1s ht hi hz hsize hby hzs hs hm hbi hr hS htot hb1 hb2
    rename_i zz s p' tq hm hsrc;split at hv
    case isFalse=>cases hv
    rename_i hze;subst hze;cases hv;obtain⟨hp',rfl,rfl,htot,hb1,hb2⟩:=hp;obtain⟨news,hS⟩:=B0g hs hsrc hp' hr2;cases hi':ob id with
    |none=>rw[(hs.dom id).2 hi']at hm;cases hm
    |some inf=>
     have ho:=hs.own id _ inf hm hi';obtain⟨hmap,hz1,hl1,hc1,hrow⟩:=ho;generalize hxv:ρ x=xv at hr hbi⊢;cases hr with
     |sl i2 hh hle hss hvv=>
      rw[hi']at hh;injection hh with hh;subst hh;obtain⟨_,hvn,hvs⟩:=hvv (by rw[hl1,htot]);have hxcase:((xv= .slice none 0 0\/ ∃a,xv= .slice (some a) 0 0)/\s.n=0/\inf.blk=none/\inf.cap=0)\/ ∃b arr T,inf.blk=some b/\xv= .slice (some ⟨b,0,none⟩) s.n inf.cap/\w.heap[b]? =some (.cells arr T (0,0))/\arr.size=inf.cap*zz/\B0l G w ob arr zz s:=by grind
      have hA:=A79 (ty:=ty) ht hi hz hsize hzs hS (x:=xv) (n:=s.n) hb2 (by rw[hby];exact hb1) (by grind)
      have hgapp: ∀k,k<s.n+tq.n->((s.app tq).g k).length=zz:=λk hk=>by
       simp only[Sq.app];split
       ·rename_i hk1;rcases hxcase with⟨_,h2,_⟩ |⟨b,arr,T,_,_,_,_,h6⟩
        ·omega
        ·exact h6.1 k hk1
       ·exact hS.glen _ o_
      rcases hA with⟨h0,hrun⟩ |⟨b,cap,arr,T,hqne,hxe,hg,hcap,hrun⟩ |⟨nc,row,hq0,hnc,hrow',hrun,hold,hnew⟩
      ·
       rw[hrun]at hbi;have hup:upd ob id (some inf)=ob:=A4b hi';obtain⟨s1,s2,s3⟩:=hs.update (w':=w) id (.arr zz (s.app tq)) inf (ze _) (λ_ _ _=>rfl) (λj hj=>by simp_all)
        (λb hb=> .inl ⟨inf,hi',hb⟩) (λ_ _ _ _ _=>rfl) (by
          rw[hup];refine⟨hmap,hz1,by simp[Sq.app,h0,hl1],by simp[Sq.app,h0,hc1],?_⟩;rcases hrow with⟨h1,h2,h3⟩ |⟨b,arr,T,h1,h2,h3,h4⟩
          ·exact .inl ⟨h1,by simp[Sq.app,h0,h2],h3⟩
          ·refine .inr ⟨b,arr,T,h1,h2,h3,λk hk=> ?_,λk j av hk hj=> ?_⟩
           ·simp only[Sq.app,h0,Nat.add_zero]at hk⊢;rw[zc hk];exact h4.1 k hk
           ·simp only[Sq.app,h0,Nat.add_zero]at hk hj;rw[zc hk]at hj;exact h4.2 k j av hk hj)
        (λ_ b hb=>hs.sep id _ inf b hm rfl hi' (.inl hb)) (λo0 h0=>by rw[hm]at h0;cases h0;rfl)
       refine⟨G,w,_,xv, .inl hbi,s1,(λav hav=> ?_),s2,Fr.of_heap (ze _) (λ_ _ _=>rfl) s3 rfl rfl rfl⟩;injection hav with hav;subst hav;rw[hup,h0,Nat.add_zero];exact .sl inf hi' o_ hss (λ_=>⟨o_,hvn,hvs⟩)
      ·
       rcases hxcase with⟨hn0',hn0,hb0,hc0⟩ |⟨b',arr',T',h1,h2,h3,h4,h5⟩
       ·simp_all
       rw[h2]at hxe;simp only[Value.slice.injEq,za,Addr.mk.injEq,qV,qo]at hxe;obtain⟨rfl,rfl⟩:=hxe;rw[h3]at hg;simp only[za,Obj.cells.injEq,qV]at hg;obtain⟨rfl,rfl⟩:=hg;rw[hrun]at hbi;have hfit:s.n*zz+news.length<=arr'.size:=by rw[hS.len,h4,<-qa];exact zw _ hcap
       have hnG: ¬G b':=hs.sep id _ inf b' hm rfl hi' (.inl h1)
       have hhold: ∀q,q≠b'->(w.setRow b' (stored arr' (s.n*zz) news)).heap[q]? =w.heap[q]? :=λq hk=>setRow_other w b' q _ hk
       have hGw: ∀q,G q->(w.setRow b' (stored arr' (s.n*zz) news)).heap[q]? =w.heap[q]? :=λq hG=>hhold q (λe=>hnG (e▸hG))
       have hi2:(⟨some b',zz,s.n+tq.n,inf.cap, .cells⟩:L4)=inf\/(inf.len<(⟨some b',zz,s.n+tq.n,inf.cap, .cells⟩:L4).len/\inf.kind= .cells):=by grind
       have hob:D4 ob (upd ob id (some ⟨some b',zz,s.n+tq.n,inf.cap, .cells⟩)):=λq j hj=>by
        by_cases hq:q=id
        ·simp_all
        ·exact⟨j,by rw[J0 hq];exact hj, .inl rfl⟩
       obtain⟨s1,s2,s3⟩:=hs.update (w':=w.setRow b' (stored arr' (s.n*zz) news)) id (.arr zz (s.app tq)) ⟨some b',zz,s.n+tq.n,inf.cap, .cells⟩ p_
        (λq _ hne=>hhold q (λe=>hne inf hi' (by rw[h1,e]))) (λj hj=>by simp_all)
        (λq hq=> .inl ⟨inf,hi',by rw[h1];exact hq⟩) (λj hj q hq hG=>hGw q hG)
        ⟨rfl,rfl,rfl,hcap, .inr ⟨b',_,T',rfl,A0y h3,by rw[A4q _ _ _ hfit,h4],hgapp,λk j av hk hj=>by
          show av.pure=true/\ ∃v,(stored arr' (s.n*zz) news)[k*zz+j]? =some v/\_;rw[A5m _ _ _ hfit,hS.len];simp only[Sq.app]at hk hj;split at hj
          ·rename_i hk1;obtain⟨c1,u,c2,c3⟩:=h5.2 k j av hk1 hj;have hjl:j<zz:=by
            rw[<-h5.1 k hk1];grind
           have:=A2y hk1 hjl;rw[zb o_];exact⟨c1,u,c2,c3.ext (λ_ h=>h) hGw hob⟩
          ·rename_i hk1;obtain⟨c0,c1,u,c2,c3⟩:=hS.relD (k:=k-s.n) o_ hj;have:=A2y (n:=tq.n) (k:=k-s.n) o_ c0
           have hge:s.n*zz<=k*zz:=zw _ o_
           have hsub:(k-s.n)*zz=k*zz-s.n*zz:=xl _ _ _;rw[zc ⟨o_,o_⟩];refine⟨c1,u,?_,c3.ext (λ_ h=>h) hGw hob⟩
           grind⟩⟩
        (λ_ q hq=>by simp_all) (λo0 h0=>by rw[hm]at h0;cases h0;rfl)
       refine⟨G,w.setRow b' (stored arr' (s.n*zz) news),_, .slice (some ⟨b',0,none⟩) (s.n+tq.n) inf.cap, .inl hbi,s1,(λav hav=> ?_),s2,Fr.of_heap p_ (λq hq hc=> ?_) s3 rfl rfl rfl⟩
       ·injection hav with hav;subst hav;refine .sl ⟨some b',zz,s.n+tq.n,inf.cap, .cells⟩ p_ (ze _) ⟨_,_,rfl⟩ λ_=>⟨p_,λh=>by simp at h,λq hq=> ?_⟩
        grind
       ·refine hhold q λe=> ?_;subst e;rcases hc with hc |hc
        ·exact hnG hc
        ·exact hc ⟨id,inf,hi', .inl h1⟩
      ·
       rw[hrun]at hbi;have hGw: ∀q,G q->(w.drew.alloc (.cells row el)).heap[q]? =w.heap[q]? :=λq hG=>heap_alloc_old w.drew _ _ (hs.lt q hG)
       have hi2:inf.len<(⟨some w.heap.size,zz,s.n+tq.n,nc, .cells⟩:L4).len/\inf.kind= .cells:=⟨by simp only;omega,hmap⟩
       have hob:D4 ob (upd ob id (some ⟨some w.heap.size,zz,s.n+tq.n,nc, .cells⟩)):=λq j hj=>by
        by_cases hq:q=id
        ·simp_all
        ·exact⟨j,by rw[J0 hq];exact hj, .inl rfl⟩
       obtain⟨s1,s2,s3⟩:=hs.update (w':=w.drew.alloc (.cells row el)) id (.arr zz (s.app tq)) ⟨some w.heap.size,zz,s.n+tq.n,nc, .cells⟩ p_
        (λq hq _=>heap_alloc_old w.drew _ _ hq) (λj hj=>by simp_all)
        (λq hq=> .inr (by simp_all)) (λj hj q hq hG=>hGw q hG)
        ⟨rfl,rfl,rfl,hnc, .inr ⟨w.heap.size,row,el,rfl,heap_alloc_new w.drew _,hrow',hgapp,λk j av hk hj=>by
          simp only[Sq.app]at hk hj;split at hj
          ·rename_i hk1;rcases hxcase with⟨_,h2,_⟩ |⟨b',arr',T',h1,h2,h3,h4,h5⟩
           ·omega
           ·obtain⟨c1,u,c2,c3⟩:=h5.2 k j av hk1 hj;have hjl:j<zz:=by
             rw[<-h5.1 k hk1];grind
            exact⟨c1,u,by rw[hold _ (A2y hk1 hjl) b' _ arr' T' h2 h3];exact c2,c3.ext (λ_ h=>h) hGw hob⟩
          ·rename_i hk1;obtain⟨c0,c1,u,c2,c3⟩:=hS.relD (k:=k-s.n) o_ hj;have hlt:=A2y (n:=tq.n) (k:=k-s.n) o_ c0;refine⟨c1,u,?_,c3.ext (λ_ h=>h) hGw hob⟩;have hge:s.n*zz<=k*zz:=zw _ o_
           have hsub:(k-s.n)*zz=k*zz-s.n*zz:=xl _ _ _
           grind⟩⟩
        (λ_ q hq hG=>by simp only[za]at hq;have:=hs.lt q hG;omega) (λo0 h0=>by rw[hm]at h0;cases h0;rfl)
       refine⟨G,w.drew.alloc (.cells row el),_, .slice (some ⟨w.heap.size,0,none⟩) (s.n+tq.n) nc, .inl hbi,s1,(λav hav=> ?_),s2,Fr.of_heap p_ (λq hq hc=>heap_alloc_old w.drew _ _ hq) s3 rfl rfl rfl⟩;injection hav with hav;subst hav;refine .sl ⟨some w.heap.size,zz,s.n+tq.n,nc, .cells⟩ p_ (ze _) ⟨_,_,rfl⟩ λ_=>⟨p_,λh=>by simp at h,λq hq=> ?_⟩
       grind
   ·cases hv
end
section
variable {P:Program} {G:Nat->Prop} {w:World} {ob:Place} {m:Nat->Option A7}
variable {esz:Nat} {g:Nat->List AV} {len:Nat} {vs:Array Value}
theorem E5y {s:Sem Next}{id cap:Nat}{T:TypeId}(hs:E8 G w ob m)(hid:m id=none)(hlc:len<=cap)
  (hn:vs.size=cap*esz)(hlen: ∀k,k<len->(g k).length=esz)
  (hrel: ∀(k j:Nat) (av:AV),k<len->(g k)[j]? =some av->av.pure=true/\ ∃u,vs[k*esz+j]? =some u/\Rel G w ob av u)
  (h:s.run P w= .ok (.value (.slice (some ⟨w.heap.size,0,none⟩) len cap)) (w.alloc (.cells vs T))):E6 P G w ob m s ⟨some (.sl id 0 len len),[(id, .arr esz ⟨len,g⟩)]⟩:=by
 have hno:ob id=none:=(hs.dom id).1 hid
 have hext:D4 ob (upd ob id (some ⟨some w.heap.size,esz,len,cap, .cells⟩)):=λx j hj=>by
  have hx:x≠id:=λe=>by subst e;rw[hno]at hj;cases hj
  exact⟨j,by rw[J0 hx];exact hj, .inl rfl⟩
 have hGw: ∀b,G b->(w.alloc (.cells vs T)).heap[b]? =w.heap[b]? :=λb hG=>heap_alloc_old _ _ _ (hs.lt b hG);refine E6.new (w0:=w) (i:=⟨some w.heap.size,esz,len,cap, .cells⟩) hs hid rfl rfl rfl rfl h (λb hb=>by simpa using hb.symm) ?_ ?_
 ·refine⟨rfl,rfl,rfl,hlc, .inr ⟨w.heap.size,vs,T,rfl,heap_alloc_new _ _,hn,hlen,λk j av hk hj=> ?_⟩⟩;obtain⟨h1,u,h2,h3⟩:=hrel k j av hk hj;exact⟨h1,u,h2,h3.ext (λ_ h=>h) hGw hext⟩
 ·refine .sl ⟨some w.heap.size,esz,len,cap, .cells⟩ p_ (ze _) ⟨_,_,rfl⟩ λ_=>⟨p_,λh=>by simp at h,λb hb=> ?_⟩
  grind
theorem F0s(z:Array Value)(n q:Nat)(hq:q<n)(hz:0<z.size):(madeCells z n)[q]? =z[q%z.size]? :=by
 have hlt:=yF q hz;simp only[madeCells,yR,xe,hq,zL,Option.map_some]
 grind
variable {p:Prop} {t:TypeId} {r:Res} {d:Nat} {ρ:Operand->Value} {x:Operand} {ax:AX} {el:TypeId} {y:Operand} {ay:AX} {bytes:Nat}
theorem E50 {i:TypeInfo}{z:Value}{e:AX->Option AV}
  (ht:P.underlying t=some (.slice el))(hi:P.info? el=some i)(hz:i.zero=some z)(hsize:i.size=esz)(hby:i.bytes=bytes)(hzs:z.cells.size=esz)(hone:z.cells.all Value.oneCell'=true)
  (hs:E8 G w ob m)(hx:cx x=some ax)(hy:cx y=some ay)(he:O0 G w ob ρ e)(hv:eval (.mkslice esz bytes z.cells.toList ax ay) e m d=some (p,r))(hp:p):
  E6 P G w ob m (do pure (.value (<-Instr.makeSlice t (ρ x) (ρ y)))) r:=by
 subst hsize;subst hby
 simp only[eval]at hv;split at hv
 case h_2=>cases hv
 rename_i k1 l k2 c hm hax hay;cases hv;obtain⟨h0,hlc,hb,h63⟩:=hp;rw[(he x ax _ hx hax).sc_eq,(he y ay _ hy hay).sc_eq];have hr:=run_make (P:=P) w t el i z ht hi hz k1 k2 l c h0 hlc hb h63;refine E5y (cap:=c.toNat) (vs:=madeCells z.cells (c.toNat*i.size)) (T:=el) hs hm o_ (size_madeCells _ _) (λk hk=>by simp[hzs]) (λk j av hk hj=> ?_) (by simp[hr]);rw[qA,zh]at hj;obtain⟨u,hu,rfl⟩:=hj;have hu':z.cells[j]? =some u:=by simpa using hu
 have hjl:j<i.size:=by grind
 refine⟨rfl,u,?_, .sc (yh.1 hone u (yi hu'))⟩;rw[F0s _ _ _ (A2y o_ hjl) o_,hzs,Nat.mul_comm,Nat.mul_add_mod,yp hjl];exact hu'
theorem F0z {e:AX->Option AV}
  (ht:P.underlying t=some (.array len el))(hz:Y8 P el=some esz)
  (hs:E8 G w ob m)(hx:cx x=some ax)(hy:cx y=some ay)(he:O0 G w ob ρ e)(hv:eval (.aaddr len esz ax ay) e m d=some (p,r))(hp:p):
  E6 P G w ob m (do pure (.value (<-Instr.indexAt t (ρ x) (ρ y)))) r:=by
 have key: ∀(a:Addr) (k:IntKind) (j:Int),0<=j->j<len->(Instr.indexAt t (.pointer (some a)) (.int k j)).run P w= .ok (.pointer (some (a.add (j.toNat*esz)))) w:=λa k j h0 h1=>by simp[Instr.indexAt,B53,run_underlying ht,h0,h1,T9 hz,Instr.sureAddr]
 simp only[eval]at hv;split at hv
 ·rename_i cs k j hax hay;cases hv;obtain⟨h0,h1⟩:=hp;have hr:=he x ax _ hx hax;rw[(he y ay _ hy hay).sc_eq];generalize ρ x=v at hr;cases hr with
  |dE b o c hG hpp hc hrr=>
   refine E6.quiet hs (v:= .pointer (some ⟨b,o+j.toNat*esz,none⟩)) (by simp[key _ _ _ h0 h1,A2c]) ?_;refine .dE b _ (λq=>c (j.toNat*esz+q)) hG (λq av hq=>hpp _ av (getElem?_drop_lt hq)) (λq hq=> ?_) (λq av hq=>hrr _ av (getElem?_drop_lt hq))
   grind
 ·rename_i id k o tot k' j hax hay;cases hv;obtain⟨h0,h1⟩:=hp;have hr:=he x ax _ hx hax;rw[(he y ay _ hy hay).sc_eq];generalize ρ x=v at hr;cases hr with
  |ptr a i h hle hvv=>refine E6.quiet hs (v:= .pointer (some (a.add (j.toNat*esz)))) (by simp[key _ _ _ h0 h1]) ?_;refine .ptr _ i h hle λhl=> ?_;obtain⟨b,h2,rfl,h3⟩:=hvv hl;exact⟨b,h2,by rw[A2c,yx],h3⟩
 ·cases hv
theorem F07 {k:IntKind}{e:AX->Option AV}
  (hs:E8 G w ob m)(hv:eval (.mkmap k) e m d=some (p,r)):E6 P G w ob m (do pure (.value (<-Instr.makeMap t none))) r:=by
 simp only[eval]at hv;cases hm:m (nid d)with
 |some o=>simp[hm]at hv
 |none=>
  simp only[hm,za,zq]at hv;obtain⟨_,rfl⟩:=hv;refine E6.new (w0:=w) (x:= .map #[] 0) (i:=⟨some w.heap.size,0,0,0, .map⟩) hs hm rfl rfl rfl rfl (v:= .map (some w.heap.size)) ?_ (λb hb=>by simpa using hb.symm) ?_ ?_
  ·simp[Instr.makeMap]
  ·exact⟨rfl,w.heap.size,#[],0,rfl,heap_alloc_new _ _,rfl,λj z av h=>by simp at h⟩
  ·exact .mp _ ⟨some w.heap.size,0,0,0, .map⟩ p_ rfl rfl
theorem C03 {k kk:IntKind}{z:Int}: ∀(es:List (Int×AV)) (ents:List MapEntry) (q:Nat),ents.length=es.length->
  (∀(j:Nat) (z':Int) (av:AV),es[j]? =some (z',av)-> ∃(x:MapEntry),ents[j]? =some x/\x.key= .int k z')->
  Instr.findNow (.int kk) (.int k z) ents q=some ((es.findIdx? (λx=>z==x.1)).bind λj=>(ents[j]?).map λx=>(q+j,x.val))
 | [],[],q,_,_=>by simp[Instr.findNow]
 | [],_::_,q,h,_=>by simp at h
 |_::_,[],q,h,_=>by simp at h
 |(z',av)::es,x::ents,q,h,hk=>by
  obtain⟨x',h1,h2⟩:=hk 0 z' av p_;simp only[List.getElem?_cons_zero,za]at h1;subst h1;have ih:=C03 (kk:=kk) (z:=z) es ents (q+1) (by simpa using h) (λj z' av hj=>by obtain⟨y,h3,h4⟩:=hk (j+1) z' av (by simpa using hj);exact⟨y,by simpa using h3,h4⟩)
  simp only[Instr.findNow,h2,Instr.sameNow,zL,yr];by_cases hz:(z==z')=true
  ·simp[hz]
  ·have hz':(z==z')=false:=by simpa using hz
   simp only[hz',ih,zf,zJ];cases es.findIdx? (λx=>z==x.1)with
   |none=>rfl
   |some j=>simp[yx,xf 1 j]
theorem E0b: ∀(es:List (Int×AV)) (z:Int),B63 es z=(es.findIdx? (λx=>z==x.1)).bind λj=>(es[j]?).map (·.2)
 | [],z=>rfl
 |(z',av)::es,z=>by
  simp only[B63,yr,E0b es z];split
  ·simp
  ·cases es.findIdx? (λx=>z==x.1) <;> simp
theorem D21(h:v.cells.all Value.oneCell'=true)(hv: ∀vs,v≠ .tuple vs):Rel G w ob (B6w v) v:=by
 cases v with
 |agg cs=>have:=D4s (G:=G) (w:=w) (ob:=ob) (Z:=cs) h;exact .agg cs this.1 this.2.1 this.2.2
 |tuple vs=>exact absurd rfl (hv vs)
 |_=>exact .sc rfl
variable {n:Nat} {b:Bool} {kt:TypeId}
theorem B84 {k:IntKind}{z:Int}{k':IntKind}(hk:P.underlying kt=some (.int k)):(Instr.checkKey b (n+1) kt (.int k' z)).run P w= .ok () w:=by simp[Instr.checkKey,run_underlying hk]
theorem E8e {k:IntKind}{zero:Value}{ok:Bool}{e:AX->Option AV}
  (ht:P.underlying t=some (.map kt el))(hk:P.underlying kt=some (.int k))(hz:(P.info? el).bind (·.zero)=some zero)
  (hone:zero.cells.all Value.oneCell'=true)(hnt: ∀vs,zero≠ .tuple vs)
  (hs:E8 G w ob m)(hx:cx x=some ax)(hy:cx y=some ay)(he:O0 G w ob ρ e)(hv:eval (.lookup k zero ok ax ay) e m d=some (p,r)):
  E6 P G w ob m (do pure (.value (<-Instr.lookup t (ρ x) (ρ y) ok))) r:=by
 simp only[eval]at hv;split at hv
 case h_2=>cases hv
 rename_i id k' z hax hay;have hr:=he x ax _ hx hax;rw[(he y ay _ hy hay).sc_eq];split at hv
 case h_2=>cases hv
 rename_i k'' es hm;split at hv
 case isFalse=>cases hv
 rename_i hkk;obtain⟨rfl,rfl⟩:=hkk;cases hv;generalize ρ x=v at hr;cases hr with
 |mp b i h hb hmap=>
  obtain⟨_,b',ents,clock,h1,h2,h3,h4⟩:=hs.own id _ i hm h;rw[hb]at h1;injection h1 with h1;subst h1;have hfn:=C03 (k:=k) (kk:=k) (z:=z) es ents.toList 0 (by simpa using h3) (λj z' av hj=>by grind)
  have hck:(Instr.checkKey ents.isEmpty 10000 kt (.int k z)).run P w= .ok () w:=B84 hk
  have found: ∃u fnd,(Instr.lookup t (.map (some b)) (.int k z) ok).run P w= .ok (if ok then .tuple #[u, .bool fnd]else u) w/\fnd=(B63 es z).isSome/\
    Rel G w ob ((B63 es z).getD (B6w zero)) u:=by
   rw[E0b];have hget:(getObj b).run P w= .ok (.map ents clock) w:=by simp[getObj,Sem.run,h2]
   cases hfi:es.findIdx? (λx=>z==x.1)with
   |none=>
    rw[hfi]at hfn;refine⟨zero,false,?_,rfl,D21 hone hnt⟩;have hfk:(Instr.findKey kt (.int k z) ents.toList).run P w= .ok none w:=by simp only[Option.bind_none]at hfn;simp[Instr.findKey,run_underlying hk,hfn]
    cases ok <;> simp only[Instr.lookup,Sem.run_bind,run_underlying ht,Result.andThen_ok,hget,Sem.run_pure,hck,hfk,B2c hz,zf,zJ,zL]
   |some j=>
    have hj:j<es.length:=by have:=qW.1 hfi;exact this.1
    obtain⟨hfl,x,h5,h6,h7⟩:=h4 j es[j].1 es[j].2 (by simp[zg hj]);have h5':ents.toList[j]? =some x:=by simpa using h5
    rw[hfi]at hfn;simp only[Option.bind_some,h5',Option.map_some,qk]at hfn;refine⟨x.val,true,?_,by simp[zg hj],by simpa[zg hj]using h7⟩;have hfk:(Instr.findKey kt (.int k z) ents.toList).run P w= .ok (some (j,x.val)) w:=by simp[Instr.findKey,run_underlying hk,hfn]
    cases ok <;> simp only[Instr.lookup,Sem.run_bind,run_underlying ht,Result.andThen_ok,hget,Sem.run_pure,hck,hfk,zf,zJ,zL]
  obtain⟨u,fnd,hrun,rfl,hrel⟩:=found;cases ok with
  |false=>exact E6.quiet hs (v:=u) (by simp[hrun]) (by simpa using hrel)
  |true=>
   refine E6.quiet hs (v:= .tuple #[u, .bool (B63 es z).isSome]) (by simp[hrun]) ?_;simp only[zL];refine .tup _ rfl λj av hj=> ?_;cases j with
   |zero=>simp_all
   |succ j=>cases j with
    |zero=>simp only[List.getElem?_cons_succ,List.getElem?_cons_zero,za]at hj;subst hj;exact .sc rfl
    |succ j=>simp at hj
theorem D1q: ∀(es:List (Int×AV)) (z:Int) (v:AV),B3z es z v=match es.findIdx? (λx=>z==x.1)with
  |some j=>es.modify j (λx=>(x.1,v))
  |none=>es++ [(z,v)]
 | [],z,v=>rfl
 |(z',u)::es,z,v=>by
  simp only[B3z,yr,D1q es z v]
  grind
theorem F36 {k:IntKind}{e:AX->Option AV}{u:Operand}{au:AX}
  (ht:P.underlying t=some (.map kt el))(hk:P.underlying kt=some (.int k))
  (hs:E8 G w ob m)(hx:cx x=some ax)(hy:cx y=some ay)(hu:cx u=some au)(he:O0 G w ob ρ e)(hv:eval (.mset k ax ay au) e m d=some (p,r)):
  E6 P G w ob m (do Instr.mapUpdate t (ρ x) (ρ y) (ρ u);pure .skip) r:=by
 simp only[eval]at hv;split at hv
 case h_2=>cases hv
 rename_i id k' z av hax hay hau;have hr:=he x ax _ hx hax
 have hru:=he u au _ hu hau;rw[(he y ay _ hy hay).sc_eq];split at hv
 case h_2=>cases hv
 rename_i k'' es hm;split at hv
 case isFalse=>cases hv
 rename_i hkk;obtain⟨rfl,rfl,hflat⟩:=hkk;cases hv;generalize ρ x=v at hr;generalize ρ u=vu at hru;cases hr with
 |mp b i h hb hmap=>
  obtain⟨hmp,b',ents,clock,h1,h2,h3,h4⟩:=hs.own id _ i hm h;rw[hb]at h1;injection h1 with h1;subst h1;have hfn:=C03 (k:=k) (kk:=k) (z:=z) es ents.toList 0 (by simpa using h3) (λj z' av hj=>by grind)
  have hck:(Instr.checkKey false 10000 kt (.int k z)).run P w= .ok () w:=B84 hk
  have hget:(getObj b).run P w= .ok (.map ents clock) w:=by simp[getObj,Sem.run,h2]
  have hblt:b<w.heap.size:=by grind
  have hsetO: ∀o,(setObj b o).run P w= .ok () {w with heap:=w.heap.setIfInBounds b o}:=λo=>by simp[setObj,Sem.run,h2]
  have hnG: ¬G b:=hs.sep id _ i b hm rfl h (.inl hb)
  have fin: ∀(ents':Array MapEntry) (clock':Nat),(Instr.mapUpdate t (.map (some b)) (.int k z) vu).run P w= .ok () {w with heap:=w.heap.setIfInBounds b (.map ents' clock')}->
    ents'.size=(B3z es z av).length->(∀(j:Nat) (z':Int) (a:AV),(B3z es z av)[j]? =some (z',a)->a.flat=true/\ ∃(x:MapEntry),ents'[j]? =some x/\x.key= .int k z'/\Rel G w ob a x.val)->
    E6 P G w ob m (do Instr.mapUpdate t (.map (some b)) (.int k z) vu;pure .skip) ⟨none,[(id, .map k (B3z es z av))]⟩:=by
   intro ents' clock' hrun hlen hents;have hhold: ∀q,q≠b->({w with heap:=w.heap.setIfInBounds b (.map ents' clock')}:World).heap[q]? =w.heap[q]? :=λq hq=>qQ (Ne.symm hq)
   have hGw: ∀q,G q->({w with heap:=w.heap.setIfInBounds b (.map ents' clock')}:World).heap[q]? =w.heap[q]? :=λq hG=>hhold q (λe=>hnG (e▸hG))
   have hup:upd ob id (some i)=ob:=A4b h;obtain⟨s1,s2,s3⟩:=hs.update (w':= {w with heap:=w.heap.setIfInBounds b (.map ents' clock')}) id (.map k (B3z es z av)) i p_
    (λq _ hne=>hhold q (λe=>hne i h (by rw[hb,e]))) (λj hj=>by grind)
    (λq hq=> .inl ⟨i,h,hq⟩) (λj hj q hq hG=>hGw q hG)
    ⟨hmp,b,ents',clock',hb,by simp[hblt],hlen,λj z' a hj=>by obtain⟨c1,x,c2,c3,c4⟩:=hents j z' a hj;exact⟨c1,x,c2,c3,c4.ext (λ_ h=>h) hGw (by rw[hup];exact D4.refl ob)⟩⟩
    (λ_ q hq=>by grind) (λo0 h0=>by rw[hm]at h0;cases h0;rfl)
   refine⟨G,{w with heap:=w.heap.setIfInBounds b (.map ents' clock')},_,undef, .inr ⟨by simp[hrun],rfl⟩,s1,(λ_ hh=>by cases hh),s2,Fr.of_heap p_ (λq hq hc=> ?_) s3 rfl rfl rfl⟩;refine hhold q λe=> ?_;subst e;rcases hc with hc |hc
   ·exact hnG hc
   ·exact hc ⟨id,i,h, .inl hb⟩
  cases hfi:es.findIdx? (λx=>z==x.1)with
  |none=>
   rw[hfi]at hfn;simp only[Option.bind_none]at hfn;have hfk:(Instr.findKey kt (.int k z) ents.toList).run P w= .ok none w:=by simp[Instr.findKey,run_underlying hk,hfn]
   have hmp':B3z es z av=es++ [(z,av)]:=by rw[D1q,hfi]
   refine fin (ents.push {key:= .int k z,val:=vu,born:=clock}) (clock+1) ?_ (by simp[hmp',h3]) (λj z' a hj=> ?_)
   ·simp[Instr.mapUpdate,run_underlying ht,hget,hck,hfk,hsetO]
   ·rw[hmp']at hj;by_cases hjl:j<es.length
    ·grind
    ·rw[zY o_]at hj;have hje:j=es.length:=by
      grind
     subst hje;simp only[yt,List.getElem?_cons_zero,za,zq]at hj;obtain⟨rfl,rfl⟩:=hj;exact⟨hflat,_,by rw[yO,zc h3.symm],rfl,hru⟩
  |some j=>
   have hj:=qW.1 hfi
   have hjl:j<es.length:=hj.1
   have hzj:(z==es[j].1)=true:=by grind
   obtain⟨hfl,x,h5,h6,h7⟩:=h4 j es[j].1 es[j].2 (by simp[zg hjl]);have h5':ents.toList[j]? =some x:=by simpa using h5
   rw[hfi]at hfn;simp only[Option.bind_some,h5',Option.map_some,qk]at hfn;have hfk:(Instr.findKey kt (.int k z) ents.toList).run P w= .ok (some (j,x.val)) w:=by simp[Instr.findKey,run_underlying hk,hfn]
   have hkey:x.key= .int k z:=by grind
   have hstay:(Instr.keyThatStays (((ents[j]?).map (·.key)).getD (.int k z)) (.int k z)).run P w= .ok (.int k z) w:=by simp[Instr.keyThatStays,h5,hkey,Instr.sameBits]
   have hmp':B3z es z av=es.modify j (λx=>(x.1,av)):=by rw[D1q,hfi]
   refine fin (ents.modify j λe=> {e with key:= .int k z,val:=vu}) clock ?_ (by simp[hmp',h3]) (λq z' a hq=> ?_)
   ·simp[Instr.mapUpdate,run_underlying ht,hget,hck,hfk,hsetO,hstay]
   grind
end
def B2j(P:Program)(S:TypeId->Option (List Bool)):List Field->Nat->Option (List Bool)
 | [],_=>some []
 |f::fs,off=>match S f.type with
  |some sh=>if f.name≠ "_" /\f.offset=off/\Y8 P f.type=some sh.length then(match B2j P S fs (off+sh.length)with
   |some r=>some (sh++r)
   |none=>none)else none
  |none=>none
def A75(P:Program):Nat->TypeId->Option (List Bool)
 |0,_=>none
 |d+1,t=>match P.underlying t with
  |some (.int _)=>some [true]
  |some .bool=>some [false]
  |some (.struct fs)=>if P.stoodInHeld t then none else B2j P (A75 P d) fs.toList 0
  |some (.array n el)=>match A75 P d el with
   |some sh=>if P.cellsOf el=sh.length/\Y8 P el=some sh.length then some (List.replicate n sh).flatten else none
   |none=>none
  |_=>none
def A1x(P:Program)(op:BinOp)(t:TypeId):Option (List Bool):=
 match op with
 | .eql | .neq=>match P.underlying t with
   |some (.struct _) |some (.array _ _)=>if P.eqGuardType P.depth t then none else A75 P 100 t
   |_=>none
 |_=>none
def D76:BinOp->Bool
 | .neq=>true
 |_=>false
def eqV:List Bool->List Value->List Value->Option Bool
 | [],[],[]=>some true
 |true::s, .int k a::xs, .int k' b::ys=>if k=k' then(eqV s xs ys).map λr=>(a==b)&&r else none
 |false::s, .bool a::xs, .bool b::ys=>(eqV s xs ys).map λr=>(a==b)&&r
 |_,_,_=>none
section
variable {P:Program} {G:Nat->Prop} {w:World} {ob:Place} {m:Nat->Option A7}
theorem D9s: ∀(sh:List Bool) (cs ds:List AV) (xs ys:List Value) (r:Bool),B22 sh cs ds=some r->xs.length=cs.length->ys.length=ds.length->
  (∀(j:Nat) (av:AV),cs[j]? =some av->Rel G w ob av (xs.getD j undef))->(∀(j:Nat) (av:AV),ds[j]? =some av->Rel G w ob av (ys.getD j undef))->eqV sh xs ys=some r
 | [],[],[],[],[],r,h,_,_,_,_=>by simpa[B22,eqV]using h
 |true::sh, .sc (.int k a)::cs, .sc (.int k' b)::ds,x::xs,y::ys,r,h,h1,h2,h3,h4=>by
  have hx:x= .int k a:=(h3 0 _ rfl).sc_eq
  have hy:y= .int k' b:=(h4 0 _ rfl).sc_eq;subst hx;subst hy;simp only[B22]at h;simp only[eqV];split at h
  ·rename_i e;rw[zc e];simp only[zh]at h⊢;obtain⟨r',hr',rfl⟩:=h;exact⟨r',D9s sh cs ds xs ys r' hr' (by simpa using h1) (by simpa using h2) (λj av hj=>h3 (j+1) av (by simpa using hj)) (λj av hj=>h4 (j+1) av (by simpa using hj)),rfl⟩
  ·cases h
 |false::sh, .sc (.bool a)::cs, .sc (.bool b)::ds,x::xs,y::ys,r,h,h1,h2,h3,h4=>by
  have hx:x= .bool a:=(h3 0 _ rfl).sc_eq
  have hy:y= .bool b:=(h4 0 _ rfl).sc_eq;subst hx;subst hy;simp only[B22,zh]at h;simp only[eqV,zh];obtain⟨r',hr',rfl⟩:=h;exact⟨r',D9s sh cs ds xs ys r' hr' (by simpa using h1) (by simpa using h2) (λj av hj=>h3 (j+1) av (by simpa using hj)) (λj av hj=>h4 (j+1) av (by simpa using hj)),rfl⟩
 |_,[],_,_::_,_,_,_,h1,_,_,_=>by simp at h1
 |_,_::_,_,[],_,_,_,h1,_,_,_=>by simp at h1
 |_,_,[],_,_::_,_,_,_,h2,_,_=>by simp at h2
 |_,_,_::_,_,[],_,_,_,h2,_,_=>by simp at h2
theorem A61: ∀ {sh:List Bool} {xs ys:List Value} {r:Bool},eqV sh xs ys=some r->xs.length=sh.length/\ys.length=sh.length
 | [],[],[],_,_=>⟨rfl,rfl⟩
 |true::sh, .int k a::xs, .int k' b::ys,r,h=>by
  simp only[eqV]at h;split at h
  ·simp only[zh]at h;obtain⟨r',hr',_⟩:=h;obtain⟨h1,h2⟩:=A61 hr';exact⟨by simp[h1],by simp[h2]⟩
  ·cases h
 |false::sh, .bool a::xs, .bool b::ys,r,h=>by simp only[eqV,zh]at h;obtain⟨r',hr',_⟩:=h;obtain⟨h1,h2⟩:=A61 hr';exact⟨by simp[h1],by simp[h2]⟩
theorem B0u: ∀(s1 s2:List Bool) (xs ys:List Value) (r:Bool),eqV (s1++s2) xs ys=some r->
  ∃r1 r2,eqV s1 (xs.take s1.length) (ys.take s1.length)=some r1/\eqV s2 (xs.drop s1.length) (ys.drop s1.length)=some r2/\r=(r1&&r2)
 | [],s2,xs,ys,r,h=>⟨true,r,rfl,by simpa using h,p_⟩
 |true::s1,s2, .int k a::xs, .int k' b::ys,r,h=>by
  simp only[List.cons_append,eqV]at h;split at h
  ·rename_i e;simp only[zh]at h;obtain⟨r',hr',rfl⟩:=h;obtain⟨r1,r2,g1,g2,rfl⟩:=B0u s1 s2 xs ys r' hr';exact⟨(a==b)&&r1,r2,by simp[eqV,e,g1],by simpa using g2,by rw[Bool.and_assoc]⟩
  ·cases h
 |false::s1,s2, .bool a::xs, .bool b::ys,r,h=>by simp only[List.cons_append,eqV,zh]at h;obtain⟨r',hr',rfl⟩:=h;obtain⟨r1,r2,g1,g2,rfl⟩:=B0u s1 s2 xs ys r' hr';exact⟨(a==b)&&r1,r2,by simp[eqV,g1],by simpa using g2,by rw[Bool.and_assoc]⟩
def D72(P:Program)(w:World)(D:Nat)(t:TypeId)(sh:List Bool):Prop:=
 ∀(xs ys:List Value) (r:Bool),eqV sh xs ys=some r->
  (R9 P t=some false/\ ∃v u,xs= [v]/\ys= [u]/\(Op.equalIn D t v u).run P w= .ok r w)\/
  (R9 P t=some true/\(Op.equalIn D t (.agg xs.toArray) (.agg ys.toArray)).run P w= .ok r w)
variable {t:TypeId} {D:Nat}
theorem F4z {s1:List Bool}{r1:Bool}(h:D72 P w D t s1)(hsz:Y8 P t=some s1.length)(xs ys:Array Value)(off:Nat)
  (g1:eqV s1 ((xs.toList.drop off).take s1.length) ((ys.toList.drop off).take s1.length)=some r1):
  ∃a b,(part t xs off).run P w= .ok a w/\(part t ys off).run P w= .ok b w/\(Op.equalIn D t a b).run P w= .ok r1 w:=by
 rcases h _ _ r1 g1 with⟨ha,v,u,hx,hy,he⟩ |⟨ha,he⟩
 ·have get: ∀(zs:Array Value) (v:Value),(zs.toList.drop off).take s1.length= [v]->zs[off]? =some v:=λzs v hz=>by
   have h0:((zs.toList.drop off).take s1.length)[0]? =some v:=by rw[hz];rfl
   grind
  refine⟨v,u,?_,?_,he⟩
  ·simp[part,Z5 ha,get xs v hx]
  ·simp[part,Z5 ha,get ys u hy]
 ·have ext: ∀(zs:Array Value),(part t zs off).run P w= .ok (.agg ((zs.toList.drop off).take s1.length).toArray) w:=λzs=>by
   have:zs.extract off (off+s1.length)=((zs.toList.drop off).take s1.length).toArray:=by grind
   simp[part,Z5 ha,T9 hsz,this]
  exact⟨_,_,ext xs,ext ys,he⟩
theorem D20 {D:Nat}{e:TypeId}{sh:List Bool}(h:D72 P w D e sh)(hsz:Y8 P e=some sh.length)(xs ys:Array Value): ∀(n k:Nat) (r:Bool),
  eqV (List.replicate n sh).flatten (xs.toList.drop (k*sh.length)) (ys.toList.drop (k*sh.length))=some r->(Op.eqItems D e sh.length xs ys (List.range' k n)).run P w= .ok r w
 |0,k,r,hv=>by obtain⟨h1,h2⟩:=A61 hv;simp only[List.replicate_zero,List.flatten_nil,List.length_nil]at h1 h2;rw[qx.1 h1,qx.1 h2]at hv;simp only[List.replicate_zero,List.flatten_nil,eqV,za]at hv;subst hv;simp[Op.eqItems]
 |n+1,k,r,hv=>by
  rw[List.replicate_succ,List.flatten_cons]at hv;obtain⟨r1,r2,g1,g2,rfl⟩:=B0u sh _ _ _ r hv;rw[yj,yj]at g2;have ih:=D20 h hsz xs ys n (k+1) r2 (by rw[qa,Nat.one_mul];exact g2);obtain⟨a,b,p1,p2,p3⟩:=F4z h hsz xs ys _ g1;rw[yq];simp only[Op.eqItems,Sem.run_bind,p1,p2,p3,Result.andThen_ok];cases r1 with
  |false=>simp
  |true=>simpa using ih
theorem C9x {D:Nat}{S:TypeId->Option (List Bool)}(hS: ∀t sh,S t=some sh->D72 P w D t sh)(xs ys:Array Value): ∀(fs:List Field) (off:Nat) (sh:List Bool) (r:Bool),
  B2j P S fs off=some sh->eqV sh (xs.toList.drop off) (ys.toList.drop off)=some r->(Op.eqFields D xs ys fs).run P w= .ok r w
 | [],off,sh,r,h,hv=>by simp only[B2j,za]at h;subst h;obtain⟨h1,h2⟩:=A61 hv;rw[qx.1 h1,qx.1 h2]at hv;simp only[eqV,za]at hv;subst hv;simp[Op.eqFields]
 |f::fs,off,sh,r,h,hv=>by
  simp only[B2j]at h;split at h
  case h_2=>cases h
  rename_i s1 hs1;split at h
  case isFalse=>cases h
  rename_i hc;obtain⟨hn,ho,hsz⟩:=hc;split at h
  case h_2=>cases h
  rename_i s2 hs2;cases h;obtain⟨r1,r2,g1,g2,rfl⟩:=B0u s1 s2 _ _ r hv;rw[yj,yj]at g2;have ih:=C9x hS xs ys fs (off+s1.length) s2 r2 hs2 g2
  have fin: ∀(a b:Value),(part f.type xs f.offset).run P w= .ok a w->(part f.type ys f.offset).run P w= .ok b w->(Op.equalIn D f.type a b).run P w= .ok r1 w->
    (Op.eqFields D xs ys (f::fs)).run P w= .ok (r1&&r2) w:=λa b p1 p2 p3=>by
   simp only[Op.eqFields,hn,ne_eq,zK,zL,Sem.run_bind,p1,p2,p3,Result.andThen_ok];cases r1 with
   |false=>simp
   |true=>simpa using ih
  rcases hS f.type s1 hs1 _ _ r1 g1 with⟨ha,v,u,hx,hy,he⟩ |⟨ha,he⟩
  ·have get: ∀(zs:Array Value) (v:Value),(zs.toList.drop off).take s1.length= [v]->zs[off]? =some v:=λzs v hz=>by
    have h0:((zs.toList.drop off).take s1.length)[0]? =some v:=by rw[hz];rfl
    grind
   refine fin v u ?_ ?_ he
   ·simp[part,Z5 ha,ho,get xs v hx]
   ·simp[part,Z5 ha,ho,get ys u hy]
  ·have ext: ∀(zs:Array Value),(part f.type zs f.offset).run P w= .ok (.agg ((zs.toList.drop off).take s1.length).toArray) w:=λzs=>by
    have:zs.extract off (off+s1.length)=((zs.toList.drop off).take s1.length).toArray:=by grind
    simp[part,Z5 ha,T9 hsz,ho,this]
   exact fin _ _ (ext xs) (ext ys) he
theorem B7u(k:Nat): ∀(d:Nat) (t:TypeId) (sh:List Bool),A75 P d t=some sh->D72 P w (d+k) t sh
 |0,t,sh,h=>by simp[A75]at h
 |d+1,t,sh,h=>by
  intro xs ys r hv;have hD:d+1+k=(d+k)+1:=o_
  simp only[A75]at h;split at h
  ·rename_i k' ht;cases h;refine .inl ⟨by simp[R9,ht],?_⟩;obtain⟨h1,h2⟩:=A61 hv;obtain⟨x,rfl⟩:=yd.1 h1;obtain⟨y,rfl⟩:=yd.1 h2;cases x <;> cases y <;> simp only[eqV,reduceCtorEq]at hv;rename_i k1 a k2 b;split at hv
   ·rename_i e;subst e;simp only[Option.map_some,za,zO]at hv;subst hv;exact⟨_,_,rfl,rfl,by rw[hD];exact run_equalIn_int w _ t k1 k' a b ht⟩
   ·cases hv
  ·rename_i ht;cases h;refine .inl ⟨by simp[R9,ht],?_⟩;obtain⟨h1,h2⟩:=A61 hv;obtain⟨x,rfl⟩:=yd.1 h1;obtain⟨y,rfl⟩:=yd.1 h2;cases x <;> cases y <;> simp only[eqV,reduceCtorEq]at hv;rename_i a b;simp only[Option.map_some,za,zO]at hv;subst hv;exact⟨_,_,rfl,rfl,by rw[hD];exact run_equalIn_bool' w _ t a b ht⟩
  ·rename_i fs ht;split at h
   ·cases h
   ·rename_i hst;refine .inr ⟨by simp[R9,ht],?_⟩;have hf:P.fieldsOf t=fs:=by simp[Program.fieldsOf,ht]
    rw[hD,run_equalIn_struct w _ t _ _ (by rw[hf];exact ht) (by simpa using hst),hf];exact C9x (λt sh h=>B7u k d t sh h) _ _ fs.toList 0 sh r h (by simpa using hv)
  ·rename_i n el ht;split at h
   case h_2=>cases h
   rename_i s1 hs1;split at h
   case isFalse=>cases h
   rename_i hc;cases h;refine .inr ⟨by simp[R9,ht],?_⟩;have hi: ∃i,P.info? el=some i:=by
    have:=hc.2;unfold Y8 at this;rw[zh]at this
    grind
   obtain⟨i,hi⟩:=hi;rw[hD,run_equalIn_array w _ _ _ ht hi,hc.1,ya];exact D20 (B7u k d el s1 hs1) hc.2 _ _ n 0 r (by simpa using hv)
  ·cases h
variable {p:Prop} {r:Res} {d:Nat} {ρ:Operand->Value} {x:Operand} {ax:AX} {y:Operand} {ay:AX} {op:BinOp} {neg:Bool}
theorem E8c {e:AX->Option AV}
  (ht:P.underlying t=some .bool)(hop:(op= .eql/\neg=false)\/(op= .neq/\neg=true))(hs:E8 G w ob m)(hx:cx x=some ax)(hy:cx y=some ay)(he:O0 G w ob ρ e)(hv:eval (.eqb neg ax ay) e m d=some (p,r)):
  E6 P G w ob m (do pure (.value (<-(do eqGuard op t x y (ρ x) (ρ y);binOp op t (ρ x) (ρ y))))) r:=by
 simp only[eval]at hv;split at hv
 case h_2=>cases hv
 rename_i b1 b2 hax hay;cases hv;rw[(he x ax _ hx hax).sc_eq,(he y ay _ hy hay).sc_eq];have hE:(Op.equalIn 10000 t (.bool b1) (.bool b2)).run P w= .ok (b1==b2) w:=run_equalIn_bool' w 9999 t b1 b2 ht;rcases hop with⟨rfl,rfl⟩ |⟨rfl,rfl⟩
 ·refine E6.quiet hs (v:= .bool (b1==b2)) ?_ (.sc rfl);simp[eqGuard,binOp,Op.equal,Op.maxDepth,hE]
 ·refine E6.quiet hs (v:= .bool (!(b1==b2))) ?_ (.sc rfl);simp[eqGuard,binOp,Op.equal,Op.maxDepth,hE]
variable {sh:List Bool}
theorem F68 {e:AX->Option AV}
  (hsh:A1x P op t=some sh)(hs:E8 G w ob m)(hx:cx x=some ax)(hy:cx y=some ay)(he:O0 G w ob ρ e)(hv:eval (.eqa sh (D76 op) ax ay) e m d=some (p,r)):
  E6 P G w ob m (do pure (.value (<-(do eqGuard op t x y (ρ x) (ρ y);binOp op t (ρ x) (ρ y))))) r:=by
 simp only[eval]at hv;split at hv
 case h_2=>cases hv
 rename_i cs ds hax hay;simp only[zh,zq]at hv;obtain⟨q,hq,_,rfl⟩:=hv;have hrx:=he x ax _ hx hax
 have hry:=he y ay _ hy hay;cases hvx:ρ x with
 |agg xs=>
  cases hvy:ρ y with
  |agg ys=>
   rw[hvx]at hrx;rw[hvy]at hry;cases hrx with
   |agg _ hn ho hr=>
    cases hry with
    |agg _ hn' ho' hr'=>
     have hE:=D9s sh cs ds xs.toList ys.toList q hq (by simpa using hn) (by simpa using hn') (λj av hj=>by simpa[List.getD]using hr j av hj) (λj av hj=>by simpa[List.getD]using hr' j av hj)
     have key:P.eqGuardType P.depth t=false/\A75 P 100 t=some sh/\(op= .eql\/op= .neq)/\R9 P t=some true:=by
      unfold A1x at hsh;split at hsh
      ·split at hsh
       ·rename_i fs ht;split at hsh
        ·cases hsh
        ·rename_i hg;exact⟨by simpa using hg,hsh, .inl rfl,by simp[R9,ht]⟩
       ·rename_i n el ht;split at hsh
        ·cases hsh
        ·rename_i hg;exact⟨by simpa using hg,hsh, .inl rfl,by simp[R9,ht]⟩
       ·cases hsh
      ·split at hsh
       ·rename_i fs ht;split at hsh
        ·cases hsh
        ·rename_i hg;exact⟨by simpa using hg,hsh, .inr rfl,by simp[R9,ht]⟩
       ·rename_i n el ht;split at hsh
        ·cases hsh
        ·rename_i hg;exact⟨by simpa using hg,hsh, .inr rfl,by simp[R9,ht]⟩
       ·cases hsh
      ·cases hsh
     obtain⟨hg,hsp,hop,hagg⟩:=key;have heq:(Op.equalIn 10000 t (.agg xs) (.agg ys)).run P w= .ok q w:=by
      rcases B7u (P:=P) (w:=w) 9900 100 t sh hsp xs.toList ys.toList q hE with⟨ha,_⟩ |⟨_,h⟩
      all_goals simp_all
     rcases hop with rfl |rfl
     ·refine E6.quiet hs (v:= .bool q) ?_ (.sc rfl);simp[run_eqGuard_agg w .eql t x y xs ys hg,run_eql_struct,heq,D76]
     ·refine E6.quiet hs (v:= .bool (!q)) ?_ (.sc rfl);simp[run_eqGuard_agg w .neq t x y xs ys hg,run_neq_struct,heq,D76]
  |_=>rw[hvy]at hry;cases hry
 |_=>rw[hvx]at hrx;cases hrx
end
def D2f(P:Program)(w:World)(em:Bool)(D:Nat)(t:TypeId)(sh:List Bool):Prop:=
 ∀(xs:List Value) (r:Bool),eqV sh xs xs=some r->
  (R9 P t=some false/\ ∃v,xs= [v]/\(Instr.checkKey em D t v).run P w= .ok () w)\/
  (R9 P t=some true/\(Instr.checkKey em D t (.agg xs.toArray)).run P w= .ok () w)
section
variable {P:Program} {G:Nat->Prop} {w:World} {ob:Place} {m:Nat->Option A7}
variable {t:TypeId} {D:Nat}
theorem E0j {em:Bool}{s1:List Bool}{r1:Bool}(h:D2f P w em D t s1)(hsz:Y8 P t=some s1.length)(xs:Array Value)(off:Nat)
  (g1:eqV s1 ((xs.toList.drop off).take s1.length) ((xs.toList.drop off).take s1.length)=some r1):
  ∃a,(part t xs off).run P w= .ok a w/\(Instr.checkKey em D t a).run P w= .ok () w:=by
 rcases h _ r1 g1 with⟨ha,v,hx,he⟩ |⟨ha,he⟩
 ·have get:xs[off]? =some v:=by
   have h0:((xs.toList.drop off).take s1.length)[0]? =some v:=by rw[hx];rfl
   grind
  exact⟨v,by simp[part,Z5 ha,get],he⟩
 ·have:xs.extract off (off+s1.length)=((xs.toList.drop off).take s1.length).toArray:=by
   grind
  exact⟨_,by simp[part,Z5 ha,T9 hsz,this],he⟩
theorem C53 {em:Bool}{D:Nat}{S:TypeId->Option (List Bool)}(hS: ∀t sh,S t=some sh->D2f P w em D t sh)(xs:Array Value): ∀(fs:List Field) (off:Nat) (sh:List Bool) (r:Bool),
  B2j P S fs off=some sh->eqV sh (xs.toList.drop off) (xs.toList.drop off)=some r-> ∀f∈fs,f.name≠ "_" /\ ∃a,(part f.type xs f.offset).run P w= .ok a w/\(Instr.checkKey em D f.type a).run P w= .ok () w
 | [],_,_,_,_,_,f,hf=>by simp at hf
 |g::fs,off,sh,r,h,hv,f,hf=>by
  simp only[B2j]at h;split at h
  case h_2=>cases h
  rename_i s1 hs1;split at h
  case isFalse=>cases h
  rename_i hc;obtain⟨hn,ho,hsz⟩:=hc;split at h
  case h_2=>cases h
  rename_i s2 hs2;cases h;obtain⟨r1,r2,g1,g2,rfl⟩:=B0u s1 s2 _ _ r hv;rw[yj]at g2;rcases zo.1 hf with rfl |hf
  ·rw[ho];exact⟨hn,E0j (hS _ _ hs1) hsz xs off g1⟩
  ·exact C53 hS xs fs (off+s1.length) s2 r2 hs2 g2 f hf
theorem C9u {em:Bool}{D:Nat}{e:TypeId}{sh:List Bool}(h:D2f P w em D e sh)(hsz:Y8 P e=some sh.length)(xs:Array Value): ∀(n k:Nat) (r:Bool),
  eqV (List.replicate n sh).flatten (xs.toList.drop (k*sh.length)) (xs.toList.drop (k*sh.length))=some r-> ∀i∈List.range' k n,∃a,(part e xs (i*sh.length)).run P w= .ok a w/\(Instr.checkKey em D e a).run P w= .ok () w
 |0,k,r,hv,i,hi=>by simp at hi
 |n+1,k,r,hv,i,hi=>by
  rw[List.replicate_succ,List.flatten_cons]at hv;obtain⟨r1,r2,g1,g2,rfl⟩:=B0u sh _ _ _ r hv;rw[yj]at g2;rw[yq]at hi;rcases zo.1 hi with rfl |hi
  ·exact E0j h hsz xs _ g1
  ·exact C9u h hsz xs n (k+1) r2 (by rw[qa,Nat.one_mul];exact g2) i hi
theorem C0y(em:Bool)(k:Nat): ∀(d:Nat) (t:TypeId) (sh:List Bool),A75 P d t=some sh->D2f P w em (d+k) t sh
 |0,t,sh,h=>by simp[A75]at h
 |d+1,t,sh,h=>by
  intro xs r hv;have hD:d+1+k=(d+k)+1:=o_
  simp only[A75]at h;split at h
  ·rename_i k' ht;cases h;refine .inl ⟨by simp[R9,ht],?_⟩;obtain⟨h1,_⟩:=A61 hv;obtain⟨x,rfl⟩:=yd.1 h1;exact⟨x,rfl,by rw[hD];simp[Instr.checkKey,run_underlying ht]⟩
  ·rename_i ht;cases h;refine .inl ⟨by simp[R9,ht],?_⟩;obtain⟨h1,_⟩:=A61 hv;obtain⟨x,rfl⟩:=yd.1 h1;exact⟨x,rfl,by rw[hD];simp[Instr.checkKey,run_underlying ht]⟩
  ·rename_i fs ht;split at h
   ·cases h
   ·refine .inr ⟨by simp[R9,ht],?_⟩;have hf:=C53 (em:=em) (D:=d+k) (λt sh h=>C0y em k d t sh h) xs.toArray fs.toList 0 sh r h (by simpa using hv);rw[hD,Instr.checkKey];simp only[Sem.run_bind,run_underlying ht,Result.andThen_ok];rw[<-Array.forIn_toList];clear h;generalize fs.toList=L at hf;induction L with
    |nil=>simp
    |cons f L ih=>obtain⟨hn,a,p1,p2⟩:=hf f p_;simp_all
  ·rename_i n el ht;split at h
   case h_2=>cases h
   rename_i s1 hs1;split at h
   case isFalse=>cases h
   rename_i hc;cases h;refine .inr ⟨by simp[R9,ht],?_⟩;have hf:=C9u (C0y em k d el s1 hs1) hc.2 xs.toArray n 0 r (by simpa using hv);rw[hD,Instr.checkKey];simp only[Sem.run_bind,run_underlying ht,Result.andThen_ok];simp only[Std.Legacy.Range.forIn_eq_forIn_range',Std.Legacy.Range.size,Nat.sub_zero,Nat.add_one_sub_one,Nat.div_one];clear hv;generalize List.range' 0 n=L at hf;induction L with
   |nil=>simp
   |cons j L ih=>obtain⟨a,p1,p2⟩:=hf j p_;simp only[List.forIn_cons,Sem.run_bind,T9 hc.2,Result.andThen_ok,p1,p2,Sem.run_pure];exact ih (λy hy=>hf y (by simp[hy]))
  ·cases h
theorem D1c: ∀(as bs:List Int),as.length=bs.length->eqV (List.replicate as.length true) (as.map (Value.int .i64)) (bs.map (Value.int .i64))=some (as==bs)
 | [],[],_=>rfl
 |a::as,b::bs,h=>by simp only[List.length_cons,List.replicate_succ,qw,eqV,zL,D1c as bs (by simpa using h),Option.map_some];rfl
 | [],_::_,h=>by simp at h
 |_::_,[],h=>by simp at h
variable {sh:List Bool}
theorem B8u(h:A1x P .eql t=some sh):A75 P 100 t=some sh/\ ∃d,P.underlying t=some d/\R9 P t=some true/\ ∀u v,Instr.sameNow d (.agg u) v=none:=by
 simp only[A1x]at h;split at h
 ·rename_i fs ht;split at h
  ·cases h
  ·exact⟨h,_,ht,by simp[R9,ht],λu v=>by simp[Instr.sameNow]⟩
 ·rename_i n el ht;split at h
  ·cases h
  ·exact⟨h,_,ht,by simp[R9,ht],λu v=>by simp[Instr.sameNow]⟩
 ·cases h
theorem D6m: ∀(cs:List AV) (vs:List Value) (zs:List Int),B5y cs=some zs->vs.length=cs.length->(∀(j:Nat) (av:AV),cs[j]? =some av->Rel G w ob av (vs.getD j undef))->vs=zs.map (Value.int .i64)
 | [],[],zs,h,_,_=>by simp only[B5y,za]at h;subst h;rfl
 | [],_::_,_,_,h,_=>by simp at h
 |_::_,[],_,_,h,_=>by simp at h
 |c::cs,v::vs,zs,h,hl,hr=>by
  cases c with
  |sc u=>
   cases u with
   |int k z=>cases k <;> simp only[B5y,reduceCtorEq,zh]at h;obtain⟨zs',hz,rfl⟩:=h;have h0:v= .int .i64 z:=(hr 0 _ rfl).sc_eq;rw[h0,D6m cs vs zs' hz (by simpa using hl) (λj av hj=>hr (j+1) av (by simpa using hj))];rfl
   |_=>simp[B5y]at h
  |_=>simp[B5y]at h
variable {cs:List AV} {zs:List Int}
theorem E3v(hr:Rel G w ob (.agg cs) v)(h:B5y cs=some zs):v=A37 zs:=by
 cases hr with
 |agg vs hn ho hr=>have:=D6m cs vs.toList zs h (by simpa using hn) (λj av hj=>by simpa using hr j av hj);rw[A37,<-this]
variable {kt:TypeId}
theorem C45(em:Bool)(hk:A1x P .eql kt=some sh)(hall:sh=List.replicate zs.length true):(Instr.checkKey em 10000 kt (A37 zs)).run P w= .ok () w:=by
 obtain⟨h1,d,_,h2,_⟩:=B8u hk;rcases C0y (w:=w) em 9900 100 kt sh h1 (zs.map (Value.int .i64)) (zs==zs) (by rw[hall];exact D1c zs zs rfl)with⟨h,_⟩ |⟨_,h⟩
 ·rw[h2]at h;cases h
 ·exact h
theorem E58 {ys:List Int}(hk:A1x P .eql kt=some sh)(hall:sh=List.replicate zs.length true)(hl:zs.length=ys.length):(Op.equal kt (A37 zs) (A37 ys)).run P w= .ok (zs==ys) w:=by
 obtain⟨h1,d,_,h2,_⟩:=B8u hk;rcases B7u (P:=P) (w:=w) 9900 100 kt sh h1 (zs.map (Value.int .i64)) (ys.map (Value.int .i64)) (zs==ys) (by rw[hall];exact D1c zs ys hl)with⟨h,_⟩ |⟨_,h⟩
 ·rw[h2]at h;cases h
 ·exact h
theorem C9y {kt:TypeId}{sh:List Bool}{zs:List Int}(hk:A1x P .eql kt=some sh)(hall:sh=List.replicate zs.length true): ∀(es:List (List Int×AV)) (ents:List MapEntry) (q:Nat),ents.length=es.length->
  (∀(j:Nat) (z':List Int) (av:AV),es[j]? =some (z',av)->z'.length=zs.length/\ ∃(x:MapEntry),ents[j]? =some x/\x.key=A37 z')->
  (Instr.findAsking kt (A37 zs) ents q).run P w= .ok ((es.findIdx? (λx=>zs==x.1)).bind λj=>(ents[j]?).map λx=>(q+j,x.val)) w
 | [],[],q,_,_=>by simp[Instr.findAsking]
 | [],_::_,q,h,_=>by simp at h
 |_::_,[],q,h,_=>by simp at h
 |(z',av)::es,x::ents,q,h,hkk=>by
  obtain⟨hl,x',h1,h2⟩:=hkk 0 z' av p_;simp only[List.getElem?_cons_zero,za]at h1;subst h1;have ih:=C9y hk hall es ents (q+1) (by simpa using h) (λj z' av hj=>by obtain⟨hl,y,h3,h4⟩:=hkk (j+1) z' av (by simpa using hj);exact⟨hl,y,by simpa using h3,h4⟩)
  simp only[Instr.findAsking,h2,Sem.run_bind,E58 hk hall hl.symm,Result.andThen_ok,yr];by_cases hz:(zs==z')=true
  ·simp[hz]
  ·have hz':(zs==z')=false:=by simpa using hz
   simp only[hz',ih,zf,zJ];cases es.findIdx? (λx=>zs==x.1)with
   |none=>rfl
   |some j=>simp[yx,xf 1 j]
theorem D9w(hk:A1x P .eql kt=some sh)(hall:sh=List.replicate zs.length true)(es:List (List Int×AV))(ents:List MapEntry)(hlen:ents.length=es.length)
  (hh: ∀(j:Nat) (z':List Int) (av:AV),es[j]? =some (z',av)->z'.length=zs.length/\ ∃(x:MapEntry),ents[j]? =some x/\x.key=A37 z'):
  (Instr.findKey kt (A37 zs) ents).run P w= .ok ((es.findIdx? (λx=>zs==x.1)).bind λj=>(ents[j]?).map λx=>(j,x.val)) w:=by
 obtain⟨h1,d,hd,h2,h3⟩:=B8u hk;have ha:=C9y (w:=w) hk hall es ents 0 hlen hh;simp only[qk]at ha;cases ents with
 |nil=>have:es= []:=qx.1 hlen.symm;subst this;simp[Instr.findKey,run_underlying hd,Instr.findNow]
 |cons x ents=>
  have:Instr.findNow d (A37 zs) (x::ents) 0=none:=by simp only[Instr.findNow,A37,h3]
  simp only[Instr.findKey,Sem.run_bind,run_underlying hd,Result.andThen_ok,this,ha]
theorem D6r: ∀(es:List (List Int×AV)) (z:List Int),A3f es z=(es.findIdx? (λx=>z==x.1)).bind λj=>(es[j]?).map (·.2)
 | [],z=>rfl
 |(z',av)::es,z=>by
  simp only[A3f,yr,D6r es z];split
  ·simp
  ·cases es.findIdx? (λx=>z==x.1) <;> simp
theorem C6v: ∀(es:List (List Int×AV)) (z:List Int) (v:AV),A66 es z v=match es.findIdx? (λx=>z==x.1)with
  |some j=>es.modify j (λx=>(x.1,v))
  |none=>es++ [(z,v)]
 | [],z,v=>rfl
 |(z',u)::es,z,v=>by
  simp only[A66,yr,C6v es z v]
  grind
variable {p:Prop} {r:Res} {d n:Nat}
theorem E8f {e:AX->Option AV}
  (hs:E8 G w ob m)(hv:eval (.mkmapS n) e m d=some (p,r)):E6 P G w ob m (do pure (.value (<-Instr.makeMap t none))) r:=by
 simp only[eval]at hv;cases hm:m (nid d)with
 |some o=>simp[hm]at hv
 |none=>
  simp only[hm,za,zq]at hv;obtain⟨_,rfl⟩:=hv;refine E6.new (w0:=w) (x:= .map #[] 0) (i:=⟨some w.heap.size,0,0,0, .map⟩) hs hm rfl rfl rfl rfl (v:= .map (some w.heap.size)) ?_ (λb hb=>by simpa using hb.symm) ?_ ?_
  ·simp[Instr.makeMap]
  ·exact⟨rfl,w.heap.size,#[],0,rfl,heap_alloc_new _ _,rfl,λj z av h=>by simp at h⟩
  ·exact .mp _ ⟨some w.heap.size,0,0,0, .map⟩ p_ rfl rfl
variable {ρ:Operand->Value} {x:Operand} {ax:AX} {el:TypeId} {y:Operand} {ay:AX}
theorem E5z {zero:Value}{ok:Bool}{e:AX->Option AV}
  (ht:P.underlying t=some (.map kt el))(hk:A1x P .eql kt=some (List.replicate n true))(hz:(P.info? el).bind (·.zero)=some zero)
  (hone:zero.cells.all Value.oneCell'=true)(hnt: ∀vs,zero≠ .tuple vs)
  (hs:E8 G w ob m)(hx:cx x=some ax)(hy:cx y=some ay)(he:O0 G w ob ρ e)(hv:eval (.lookupS n zero ok ax ay) e m d=some (p,r)):
  E6 P G w ob m (do pure (.value (<-Instr.lookup t (ρ x) (ρ y) ok))) r:=by
 simp only[eval]at hv;split at hv
 case h_2=>cases hv
 rename_i id cs hax hay;have hr:=he x ax _ hx hax
 have hry:=he y ay _ hy hay;split at hv
 case h_2=>cases hv
 rename_i n' es zs hm hcs;rw[E3v hry hcs];split at hv
 case isFalse=>cases hv
 rename_i hnn;obtain⟨rfl,hzl⟩:=hnn;cases hv;generalize ρ x=v at hr;cases hr with
 |mp b i h hb hmap=>
  obtain⟨_,b',ents,clock,h1,h2,h3,h4⟩:=hs.own id _ i hm h;rw[hb]at h1;injection h1 with h1;subst h1;have hall:List.replicate n true=List.replicate zs.length true:=by rw[hzl]
  have hfn:=D9w (w:=w) hk hall es ents.toList (by simpa using h3) (λj z' av hj=>by grind)
  have hck:(Instr.checkKey ents.isEmpty 10000 kt (A37 zs)).run P w= .ok () w:=C45 _ hk hall
  have found: ∃u fnd,(Instr.lookup t (.map (some b)) (A37 zs) ok).run P w= .ok (if ok then .tuple #[u, .bool fnd]else u) w/\fnd=(A3f es zs).isSome/\
    Rel G w ob ((A3f es zs).getD (B6w zero)) u:=by
   rw[D6r];have hget:(getObj b).run P w= .ok (.map ents clock) w:=by simp[getObj,Sem.run,h2]
   cases hfi:es.findIdx? (λx=>zs==x.1)with
   |none=>rw[hfi]at hfn;refine⟨zero,false,?_,rfl,D21 hone hnt⟩;simp only[Option.bind_none]at hfn;cases ok <;> simp only[Instr.lookup,Sem.run_bind,run_underlying ht,Result.andThen_ok,hget,Sem.run_pure,hck,hfn,B2c hz,zf,zJ,zL]
   |some j=>
    have hj:j<es.length:=by have:=qW.1 hfi;exact this.1
    obtain⟨hfl,x,h5,h6,h7⟩:=h4 j es[j].1 es[j].2 (by simp[zg hj]);have h5':ents.toList[j]? =some x:=by simpa using h5
    rw[hfi]at hfn;simp only[Option.bind_some,h5',Option.map_some]at hfn;refine⟨x.val,true,?_,by simp[zg hj],by simpa[zg hj]using h7⟩;cases ok <;> simp only[Instr.lookup,Sem.run_bind,run_underlying ht,Result.andThen_ok,hget,Sem.run_pure,hck,hfn,zf,zJ,zL]
  obtain⟨u,fnd,hrun,rfl,hrel⟩:=found;cases ok with
  |false=>exact E6.quiet hs (v:=u) (by simp[hrun]) (by simpa using hrel)
  |true=>
   refine E6.quiet hs (v:= .tuple #[u, .bool (A3f es zs).isSome]) (by simp[hrun]) ?_;simp only[zL];refine .tup _ rfl λj av hj=> ?_;cases j with
   |zero=>simp_all
   |succ j=>cases j with
    |zero=>simp only[List.getElem?_cons_succ,List.getElem?_cons_zero,za]at hj;subst hj;exact .sc rfl
    |succ j=>simp at hj
theorem D61(n:Nat): ∀(zs:List Int),((zs.map (Value.int .i64)).zip (zs.map (Value.int .i64))).all (λ(x,y)=>Instr.sameBits n x y)=true
 | []=>rfl
 |z::zs=>by have:=D61 n zs;simp only[qw,List.zip_cons_cons,List.all_cons,this,zO];cases n <;> simp[Instr.sameBits]
theorem E8w(n:Nat)(zs:List Int):Instr.sameBits (n+1) (A37 zs) (A37 zs)=true:=by have:=D61 n zs;simp only[A37,Instr.sameBits,beq_self_eq_true,zH];exact this
theorem F08 {e:AX->Option AV}{u:Operand}{au:AX}
  (ht:P.underlying t=some (.map kt el))(hk:A1x P .eql kt=some (List.replicate n true))
  (hs:E8 G w ob m)(hx:cx x=some ax)(hy:cx y=some ay)(hu:cx u=some au)(he:O0 G w ob ρ e)(hv:eval (.msetS n ax ay au) e m d=some (p,r)):
  E6 P G w ob m (do Instr.mapUpdate t (ρ x) (ρ y) (ρ u);pure .skip) r:=by
 simp only[eval]at hv;split at hv
 case h_2=>cases hv
 rename_i id cs av hax hay hau;have hr:=he x ax _ hx hax
 have hru:=he u au _ hu hau
 have hry:=he y ay _ hy hay;split at hv
 case h_2=>cases hv
 rename_i n' es z hm hcs;rw[E3v hry hcs];split at hv
 case isFalse=>cases hv
 rename_i hkk;obtain⟨rfl,hzl,hflat⟩:=hkk;cases hv;generalize ρ x=v at hr;generalize ρ u=vu at hru;cases hr with
 |mp b i h hb hmap=>
  obtain⟨hmp,b',ents,clock,h1,h2,h3,h4⟩:=hs.own id _ i hm h;rw[hb]at h1;injection h1 with h1;subst h1;have hall:List.replicate n true=List.replicate z.length true:=by rw[hzl]
  have hfn:=D9w (w:=w) hk hall es ents.toList (by simpa using h3) (λj z' av hj=>by grind)
  have hck:(Instr.checkKey false 10000 kt (A37 z)).run P w= .ok () w:=C45 _ hk hall
  have hget:(getObj b).run P w= .ok (.map ents clock) w:=by simp[getObj,Sem.run,h2]
  have hblt:b<w.heap.size:=by grind
  have hsetO: ∀o,(setObj b o).run P w= .ok () {w with heap:=w.heap.setIfInBounds b o}:=λo=>by simp[setObj,Sem.run,h2]
  have hnG: ¬G b:=hs.sep id _ i b hm rfl h (.inl hb)
  have fin: ∀(ents':Array MapEntry) (clock':Nat),(Instr.mapUpdate t (.map (some b)) (A37 z) vu).run P w= .ok () {w with heap:=w.heap.setIfInBounds b (.map ents' clock')}->
    ents'.size=(A66 es z av).length->(∀(j:Nat) (z':List Int) (a:AV),(A66 es z av)[j]? =some (z',a)->(a.flat=true/\z'.length=n)/\ ∃(x:MapEntry),ents'[j]? =some x/\x.key=A37 z'/\Rel G w ob a x.val)->
    E6 P G w ob m (do Instr.mapUpdate t (.map (some b)) (A37 z) vu;pure .skip) ⟨none,[(id, .mapS n (A66 es z av))]⟩:=by
   intro ents' clock' hrun hlen hents;have hhold: ∀q,q≠b->({w with heap:=w.heap.setIfInBounds b (.map ents' clock')}:World).heap[q]? =w.heap[q]? :=λq hq=>qQ (Ne.symm hq)
   have hGw: ∀q,G q->({w with heap:=w.heap.setIfInBounds b (.map ents' clock')}:World).heap[q]? =w.heap[q]? :=λq hG=>hhold q (λe=>hnG (e▸hG))
   have hup:upd ob id (some i)=ob:=A4b h;obtain⟨s1,s2,s3⟩:=hs.update (w':= {w with heap:=w.heap.setIfInBounds b (.map ents' clock')}) id (.mapS n (A66 es z av)) i p_
    (λq _ hne=>hhold q (λe=>hne i h (by rw[hb,e]))) (λj hj=>by grind)
    (λq hq=> .inl ⟨i,h,hq⟩) (λj hj q hq hG=>hGw q hG)
    ⟨hmp,b,ents',clock',hb,by simp[hblt],hlen,λj z' a hj=>by obtain⟨c1,x,c2,c3,c4⟩:=hents j z' a hj;exact⟨c1,x,c2,c3,c4.ext (λ_ h=>h) hGw (by rw[hup];exact D4.refl ob)⟩⟩
    (λ_ q hq=>by grind) (λo0 h0=>by rw[hm]at h0;cases h0;rfl)
   refine⟨G,{w with heap:=w.heap.setIfInBounds b (.map ents' clock')},_,undef, .inr ⟨by simp[hrun],rfl⟩,s1,(λ_ hh=>by cases hh),s2,Fr.of_heap p_ (λq hq hc=> ?_) s3 rfl rfl rfl⟩;refine hhold q λe=> ?_;subst e;rcases hc with hc |hc
   ·exact hnG hc
   ·exact hc ⟨id,i,h, .inl hb⟩
  cases hfi:es.findIdx? (λx=>z==x.1)with
  |none=>
   rw[hfi]at hfn;simp only[Option.bind_none]at hfn;have hmp':A66 es z av=es++ [(z,av)]:=by rw[C6v,hfi]
   refine fin (ents.push {key:=A37 z,val:=vu,born:=clock}) (clock+1) ?_ (by simp[hmp',h3]) (λj z' a hj=> ?_)
   ·simp[Instr.mapUpdate,run_underlying ht,hget,hck,hfn,hsetO]
   ·rw[hmp']at hj;by_cases hjl:j<es.length
    ·grind
    ·rw[zY o_]at hj;have hje:j=es.length:=by
      grind
     subst hje;simp only[yt,List.getElem?_cons_zero,za,zq]at hj;obtain⟨rfl,rfl⟩:=hj;exact⟨⟨hflat,hzl⟩,_,by rw[yO,zc h3.symm],rfl,hru⟩
  |some j=>
   have hj:=qW.1 hfi
   have hjl:j<es.length:=hj.1
   have hzj:(z==es[j].1)=true:=by grind
   obtain⟨hfl,x,h5,h6,h7⟩:=h4 j es[j].1 es[j].2 (by simp[zg hjl]);have h5':ents.toList[j]? =some x:=by simpa using h5
   rw[hfi]at hfn;simp only[Option.bind_some,h5',Option.map_some]at hfn;have hkey:x.key=A37 z:=by grind
   have hstay:(Instr.keyThatStays (((ents[j]?).map (·.key)).getD (A37 z)) (A37 z)).run P w= .ok (A37 z) w:=by have hsb:=E8w 9999 z;simp[Instr.keyThatStays,h5,hkey,hsb]
   have hmp':A66 es z av=es.modify j (λx=>(x.1,av)):=by rw[C6v,hfi]
   refine fin (ents.modify j λe=> {e with key:=A37 z,val:=vu}) clock ?_ (by simp[hmp',h3]) (λq z' a hq=> ?_)
   ·simp[Instr.mapUpdate,run_underlying ht,hget,hck,hfn,hsetO,hstay]
   grind
end
theorem D0n: ∀ {sh:List Bool},sh.all id=true->sh=List.replicate sh.length true
 | [],_=>rfl
 |b::sh,h=>by simp only[List.all_cons,id_eq,zi]at h;rw[List.length_cons,List.replicate_succ,<-D0n h.2,h.1]
end Go.Abs
end
