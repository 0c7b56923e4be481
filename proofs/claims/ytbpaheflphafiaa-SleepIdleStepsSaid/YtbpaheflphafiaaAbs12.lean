/- The abstract layer, part 12: states, operations with their guards, and how the model's operations are read. -/
import Derived.Test.YtbpaheflphafiaaAbs11
set_option linter.unusedSimpArgs false
set_option linter.unusedVariables false
set_option linter.unnecessarySimpa false
namespace Go.Abs

structure AOper where
  dst : Option Nat
  op : AOp
  guard : Option (Nat × Bool)
  chk : List Nat

structure St where
  env : Nat → Option (Bool × AV)
  objs : Nat → Option AObj

def St.ev (σ : St) : AX → Option (Bool × AV)
  | .t n => σ.env n
  | .k v => some (true, v)

/-- the operand's value; whether it holds: St.c -/
def St.e (σ : St) (x : AX) : Option AV := match σ.ev x with | some (_, v) => some v | none => none
def St.c (σ : St) (x : AX) : Bool := match σ.ev x with | some (c, _) => c | none => false

def St.put (σ : St) (d : Option Nat) (c : Bool) (r : Res) : St :=
  { env := match d with
      | some d => upd σ.env d (match r.val with | some v => some (c, v) | none => none)
      | none => σ.env,
    objs := wrm σ.objs r.wr }

def AOp.ops : AOp → List AX
  | .isnil _ _ x | .aslice _ _ x => [x]
  | .eqb _ x y | .sidx x y => [x, y]
  | .bad => []
  | .mov x | .load _ x | .un _ x | .box x | .convI _ x | .faddr _ x | .fld _ _ x | .len x | .mlen x | .ext x _ | .nilck x => [x]
  | .bin _ x y | .eqa _ _ x y | .store _ x y | .iaddr _ x y | .aaddr _ _ x y | .append _ _ x y | .mkslice _ _ _ x y | .minmax _ x y | .lookup _ _ _ x y => [x, y]
  | .pick c a b => [c, a, b]
  | .mset _ x y z => [x, y, z]
  | .alloc _ | .mkmap _ => []
  | .build _ ps => ps.map (·.2.2)
  | .bslice _ _ _ ps => ps.map (·.2.2)
  | .slice _ x l h mx => x :: (l.toList ++ h.toList ++ mx.toList)
  | .mkfn _ a b => a ++ b
  | .call _ xs => xs
  | .callv x xs => x :: xs

def allC (σ : St) (b : Bool) : List AX → Prop
  | [] => True
  | x :: xs => (b = true → σ.c x = true) ∧ allC σ b xs

/-- is the operation carried out? -/
def guardV (σ : St) : Option (Nat × Bool) → Option Bool
  | none => some true
  | some (g, want) => match σ.env g with
    | some (c, .sc (.bool q)) => some (c && (if want then q else !q))
    | _ => none

/-- the values of a list of operands -/
def St.es (σ : St) : List AX → Option (List AV)
  | [] => some []
  | x :: xs => match σ.e x, σ.es xs with
    | some v, some vs => some (v :: vs)
    | _, _ => none

/-- the function and the arguments of a call -/
def target (σ : St) : AOp → Option (FuncId × List AV)
  | .call f xs => match σ.es xs with
    | some vs => some (f, vs)
    | none => none
  | .callv x xs => match σ.e x, σ.es xs with
    | some (.fn (.func f) first cap), some vs => some (f, first ++ vs ++ cap)
    | _, _ => none
  | _ => none

def AOp.isCall : AOp → Bool
  | .call .. | .callv .. => true
  | _ => false
def AOp.isPick : AOp → Bool
  | .pick .. => true
  | _ => false

/-- what an operation does in a state: b: it is carried out; r: its result -/
inductive Does (P : Program) (o : AOper) (σ : St) : Bool → Res → Prop
  | op (b : Bool) (p : Prop) (r : Res) (hg : guardV σ o.guard = some b) (hb : eval o.op σ.e σ.objs (o.dst.getD 0) = some (p, r))
      (hc : allC σ b o.op.ops) (hp : b = true → p) (hw : r.wr ≠ [] → b = true) : Does P o σ b r
  | pick (b : Bool) (c x y : AX) (q p1 p2 c1 c2 cc : Bool) (ho : o.op = .pick c x y) (hg : guardV σ o.guard = some b) (hq : σ.ev c = some (cc, .sc (.bool q)))
      (hx : q = true → σ.ev x = some (c1, .sc (.bool p1))) (hy : q = false → σ.ev y = some (c2, .sc (.bool p2)))
      (hc : b = true → cc = true ∧ (q = true → c1 = true) ∧ (q = false → c2 = true)) : Does P o σ b ⟨some (.sc (.bool (if q then p1 else p2))), []⟩
  | call (b : Bool) (f : FuncId) (avs : List AV) (r : Res) (hg : guardV σ o.guard = some b) (ht : target σ o.op = some (f, avs)) (hc : allC σ b o.op.ops)
      (hd : b = true → CallDoes P σ.objs f avs r) (hw : r.wr ≠ [] → b = true) : Does P o σ b r
  | skip (hg : guardV σ o.guard = some false) : Does P o σ false ⟨none, []⟩

def cxs : List Operand → Option (List AX)
  | [] => some []
  | x :: xs => match cx x, cxs xs with
    | some a, some l => some (a :: l)
    | _, _ => none

def partsOf (place : Nat → Option (Nat × Nat)) (parts : List (Nat × Operand)) : Option (List (Nat × Nat × AX)) :=
  parts.mapM fun p => match place p.1, cx p.2 with | some (o, s), some ax => some (o, s, ax) | _, _ => none

def zeroOf (P : Program) (t : TypeId) : Option Value := (P.info? t).bind (·.zero)

/-- is a variable of the type read as one cell (none) or as n cells? -/
def cellsN (P : Program) (t : TypeId) : Option (Option Nat) :=
  match isAggB P t with
  | some false => some none
  | some true => match szOf P t with | some n => some (some n) | none => none
  | none => none

def intKindOf (P : Program) (t : TypeId) : Option IntKind :=
  match P.underlying t with
  | some (.int k) => some k
  | _ => none

def notTuple : Value → Bool
  | .tuple _ => false
  | _ => true

def boolCmp (P : Program) (op : BinOp) (t : TypeId) : Option Bool :=
  match P.underlying t, op with
  | some .bool, .eql => some false
  | some .bool, .neq => some true
  | _, _ => none

theorem cxs_get : ∀ {l : List Operand} {al : List AX}, cxs l = some al → ∀ j : Nat, (l[j]?).map cx = (al[j]?).map some
  | [], al, h, j => by simp only [cxs, Option.some.injEq] at h; subst h; simp
  | x :: xs, al, h, j => by
    simp only [cxs] at h
    split at h
    · rename_i a l h1 h2
      simp only [Option.some.injEq] at h; subst h
      cases j with
      | zero => simp [h1]
      | succ j => simpa using cxs_get h2 j
    · cases h

theorem cxo_none {x : Option Operand} (h : cxo x = some none) : x = none := by
  cases x with
  | none => rfl
  | some x => simp [cxo] at h

/-- the abstract operation of an operation -/
def cop (P : Program) : Op → Option AOp
  | .move x | .assign x => match cx x with | some a => some (.mov a) | none => none
  | .pick c a b => match cx c, cx a, cx b with | some c, some a, some b => some (.pick c a b) | _, _, _ => none
  | .alloc t => match zeroOf P t with | some z => if z.cells.all Value.oneCell' then some (.alloc z.cells.toList) else none | none => none
  | .box _ x => match cx x with | some a => some (.box a) | none => none
  | .build t parts => match zeroOf P t, placesOf P t with
    | some z, some place => if z.cells.all Value.oneCell' then (match partsOf place parts.toList with | some ps => some (.build z.cells.toList ps) | none => none) else none
    | _, _ => none
  | .buildSlice t len parts => match P.underlying t with
    | some (.slice el) => match zeroOf P el, szOf P el with
      | some z, some size => if z.cells.size = size ∧ z.cells.all Value.oneCell' = true ∧ len * size ≤ 2 ^ 24 then
          (match partsOf (fun i => some (i * size, size)) parts.toList with
            | some ps => some (.bslice size len ((Array.range (len * size)).map (z.cells[· % z.cells.size]!)).toList ps)
            | none => none) else none
      | _, _ => none
    | _ => none
  | .load t x => match cellsN P t, cx x with | some n, some a => some (.load n a) | _, _ => none
  | .store t x y => match szOf P t, cx x, cx y with | some n, some a, some b => some (.store n a b) | _, _, _ => none
  | .binOp op t x y _ => match nilCmp P op t y with
    | some (kd, neg, _) => match cx x with | some a => some (.isnil kd neg a) | none => none
    | none => match cx x, cx y with
      | some a, some b => match boolCmp P op t with
        | some neg => some (.eqb neg a b)
        | none => match eqaShape P op t with
          | some sh => some (.eqa sh (isNeq op) a b)
          | none => some (.bin op a b)
      | _, _ => none
  | .index t x i => match P.underlying t, cx x, cx i with
    | some .string, some a, some b => some (.sidx a b)
    | _, _, _ => none
  | .slice t x lo hi mx => match P.underlying t, cx x, cxo lo, cxo hi, cxo mx with
    | some (.slice el), some a, some l, some h, some q => match szOf P el with | some z => some (.slice z a l h q) | none => none
    | some (.array n el), some a, some none, some none, some none => match szOf P el with | some z => some (.aslice n z a) | none => none
    | _, _, _, _, _ => none
  | .makeFunc f first captured => match cxs first.toList, cxs captured.toList with
    | some a, some b => some (.mkfn f a b)
    | _, _ => none
  | .unOp op _ x => match cx x with | some a => some (.un op a) | none => none
  | .convert src dst x => match P.underlying src, intKindOf P dst, cx x with | some _, some k, some a => some (.convI k a) | _, _, _ => none
  | .fieldAddr s x f => match P.underlying s, cx x with
    | some (.struct fields), some a => match fields[f]? with
      | some fd => match szOf P fd.type with
        | some (_ + 1) => some (.faddr fd.offset a)
        | _ => none
      | none => none
    | _, _ => none
  | .field s x f => match P.underlying s, cx x with
    | some (.struct fields), some a => match fields[f]? with
      | some fd => match cellsN P fd.type with
        | some n => some (.fld fd.offset n a)
        | none => none
      | none => none
    | _, _ => none
  | .indexAddr t x i => match P.underlying t, cx x, cx i with
    | some (.slice el), some a, some b => match szOf P el with | some z => some (.iaddr z a b) | none => none
    | some (.array len el), some a, some b => match szOf P el with | some z => some (.aaddr len z a b) | none => none
    | _, _, _ => none
  | .extract x i => match cx x with | some a => some (.ext a i) | none => none
  | .nilCheck x => match cx x with | some a => some (.nilck a) | none => none
  | .makeSlice t l c => match P.underlying t with
    | some (.slice el) => match P.info? el, cx l, cx c with
      | some i, some a, some b => match i.zero with
        | some z => if z.cells.size = i.size ∧ z.cells.all Value.oneCell' = true then some (.mkslice i.size i.bytes z.cells.toList a b) else none
        | none => none
      | _, _, _ => none
    | _ => none
  | .makeMap t none => match P.underlying t with
    | some (.map kt _) => match intKindOf P kt with | some k => some (.mkmap k) | none => none
    | _ => none
  | .lookup t x i ok => match P.underlying t, cx x, cx i with
    | some (.map kt el), some a, some b => match intKindOf P kt, zeroOf P el with
      | some k, some z => if z.cells.all Value.oneCell' = true ∧ notTuple z = true then some (.lookup k z ok a b) else none
      | _, _ => none
    | _, _, _ => none
  | .mapUpdate t x i y => match P.underlying t, cx x, cx i, cx y with
    | some (.map kt _), some a, some b, some c => match intKindOf P kt with | some k => some (.mset k a b c) | none => none
    | _, _, _, _ => none
  | .call c => match c.callee, c.args.toList, c.argTypes.toList with
    | .builtin .len, [x], [t] => match P.underlying t, cx x with
      | some (.slice _), some a => some (.len a)
      | some (.map _ _), some a => some (.mlen a)
      | _, _ => none
    | .builtin .append, [x, y], [t, u] => match P.underlying t, cx x, cx y with
      | some (.slice el), some a, some b => match P.info? el with
        | some i => match i.zero with
          | some z => if t = u ∧ z.cells.size = i.size then some (.append i.size i.bytes a b) else none
          | none => none
        | none => none
      | _, _, _ => none
    | .builtin .min, [x, y], _ => match cx x, cx y with | some a, some b => some (.minmax false a b) | _, _ => none
    | .builtin .max, [x, y], _ => match cx x, cx y with | some a, some b => some (.minmax true a b) | _, _ => none
    | .value (.func f), _, _ => match P.funcs[f]? with
      | some fn => if fn.body.isSome && fn.name != "runtime.NumGoroutine" then (match cxs c.args.toList with | some l => some (.call f l) | none => none) else none
      | none => none
    | .value x, _, _ => match cx x, cxs c.args.toList with | some a, some l => some (.callv a l) | _, _ => none
    | _, _, _ => none
  | _ => none

section
variable {P : Program} {G : Nat → Prop} {w : World} {ob : Place} {m : Nat → Option AObj}

theorem exec_builtin1 (ρ : Operand → Value) (b : Builtin) (x : Operand) (tys : Array TypeId) (dst : Option Tmp) (type : TypeId) (pos : String) (after : Array Edge) (guard : Option (Nat × Bool)) :
    ∃ cs, execOp ρ ⟨dst, .call ⟨.builtin b, ⟨[x]⟩, tys⟩, type, pos, after, guard⟩ = builtin b tys type cs #[ρ x] := ⟨_, by simp only [execOp, resolve, pure_bind, invoke, List.map_toArray, List.map_cons, List.map_nil]; rfl⟩
theorem exec_builtin2 (ρ : Operand → Value) (b : Builtin) (x y : Operand) (tys : Array TypeId) (dst : Option Tmp) (type : TypeId) (pos : String) (after : Array Edge) (guard : Option (Nat × Bool)) :
    ∃ cs, execOp ρ ⟨dst, .call ⟨.builtin b, ⟨[x, y]⟩, tys⟩, type, pos, after, guard⟩ = builtin b tys type cs #[ρ x, ρ y] := ⟨_, by simp only [execOp, resolve, pure_bind, invoke, List.map_toArray, List.map_cons, List.map_nil]; rfl⟩

/-- an operation that is no call and no pick -/
theorem cop_ok {o : Oper} {aop : AOp} (h : cop P o.op = some aop) (hn : aop.isCall = false) (hk : aop.isPick = false)
    {ρ : Operand → Value} {e : AX → Option AV} {p : Prop} {r : Res} {d : Nat} (hkc : ∀ v, ρ (.const v) = v)
    (hs : SimO G w ob m) (he : OpRel G w ob ρ e) (hv : eval aop e m d = some (p, r)) (hp : p) : OpOk P G w ob m (execOp ρ o) r := by
  obtain ⟨dst, op, type, pos, after, guard⟩ := o
  simp only at h
  cases op <;> simp only [cop] at h
  case move x =>
    split at h <;> simp only [Option.some.injEq, reduceCtorEq] at h
    subst h; rename_i a hx
    simp only [execOp]
    exact ok_mov hs hx he hv
  case assign x =>
    split at h <;> simp only [Option.some.injEq, reduceCtorEq] at h
    subst h; rename_i a hx
    simp only [execOp]
    exact ok_mov hs hx he hv
  case pick => split at h <;> simp only [Option.some.injEq, reduceCtorEq] at h; subst h; simp [AOp.isPick] at hk
  case alloc t =>
    split at h
    case h_2 => cases h
    rename_i z hz
    split at h
    case isFalse => cases h
    simp only [Option.some.injEq] at h
    subst h; rename_i hone
    simp only [execOp]
    exact ok_alloc hz hone hs hv
  case box t x =>
    split at h <;> simp only [Option.some.injEq, reduceCtorEq] at h
    subst h; rename_i a hx
    simp only [execOp]
    exact ok_box hs hx he hv
  case build t parts =>
    split at h
    case h_2 => cases h
    rename_i z place hz hpl
    split at h
    case isFalse => cases h
    rename_i hone
    split at h
    case h_2 => cases h
    rename_i ps hps
    simp only [Option.some.injEq] at h
    subst h
    simp only [execOp]
    exact ok_build hz hone hpl hps hs he hv
  case buildSlice t len parts =>
    split at h
    case h_2 => cases h
    rename_i el ht
    split at h
    case h_2 => cases h
    rename_i z size hz hsz
    split at h
    case isFalse => cases h
    rename_i hc
    split at h
    case h_2 => cases h
    rename_i ps hps
    simp only [Option.some.injEq] at h
    subst h
    simp only [execOp]
    exact ok_bslice ht hz hsz hc.1 hc.2.1 hc.2.2 hps hs he hv hp
  case load t x =>
    split at h <;> simp only [Option.some.injEq, reduceCtorEq] at h
    subst h; rename_i n a hn' hx
    simp only [execOp]
    refine ok_load (t := t) ?_ hs hx he hv hp
    unfold cellsN at hn'
    split at hn'
    · simp only [Option.some.injEq] at hn'; subst hn'; assumption
    · rename_i hagg
      split at hn'
      · rename_i k hk'
        simp only [Option.some.injEq] at hn'; subst hn'; exact ⟨hagg, hk'⟩
      · cases hn'
    · cases hn'
  case store t x y =>
    split at h <;> simp only [Option.some.injEq, reduceCtorEq] at h
    subst h; rename_i n a b hn' hx hy
    simp only [execOp]
    exact ok_store hn' hs hx hy he hv hp
  case binOp op t x y ty =>
    split at h
    · rename_i kd neg v hnc
      split at h <;> simp only [Option.some.injEq, reduceCtorEq] at h
      subst h; rename_i a hx
      simp only [execOp]
      exact ok_isnil hnc (hkc v) hs hx he hv hp
    · split at h
      case h_2 => cases h
      rename_i a b hx hy
      split at h
      · rename_i neg hbc
        simp only [Option.some.injEq] at h
        subst h
        simp only [execOp]
        unfold boolCmp at hbc
        split at hbc <;> simp only [Option.some.injEq, reduceCtorEq] at hbc <;> subst hbc
        · exact ok_eqb (by assumption) (.inl ⟨rfl, rfl⟩) hs hx hy he hv
        · exact ok_eqb (by assumption) (.inr ⟨rfl, rfl⟩) hs hx hy he hv
      · split at h
        · rename_i sh hsh
          simp only [Option.some.injEq] at h
          subst h
          simp only [execOp]
          exact ok_eqa hsh hs hx hy he hv
        · simp only [Option.some.injEq] at h
          subst h
          simp only [execOp]
          exact ok_bin hs hx hy he hv hp
  case index t x i =>
    split at h <;> simp only [Option.some.injEq, reduceCtorEq] at h
    subst h; rename_i a b ht hx hy
    simp only [execOp]
    exact ok_sidx ht hs hx hy he hv hp
  case slice t x lo hi mx =>
    split at h
    · rename_i el a l hh q ht hx hl hhi hmx
      split at h <;> simp only [Option.some.injEq, reduceCtorEq] at h
      subst h; rename_i z hz
      simp only [execOp]
      exact ok_slice ht hz hl hhi hmx hs hx he hv hp
    · rename_i n el a ht hx hl hhi hmx
      split at h <;> simp only [Option.some.injEq, reduceCtorEq] at h
      subst h; rename_i z hz
      obtain rfl := cxo_none hl
      obtain rfl := cxo_none hhi
      obtain rfl := cxo_none hmx
      simp only [execOp, Option.map_none]
      exact ok_aslice ht hz hs hx he hv hp
    · cases h
  case makeFunc f first captured =>
    split at h <;> simp only [Option.some.injEq, reduceCtorEq] at h
    subst h; rename_i a b h1 h2
    simp only [execOp]
    exact ok_mkfn (cxs_get h1) (cxs_get h2) hs he hv
  case unOp op t x =>
    split at h <;> simp only [Option.some.injEq, reduceCtorEq] at h
    subst h; rename_i a hx
    simp only [execOp]
    exact ok_un hs hx he hv
  case convert src dst x =>
    split at h <;> simp only [Option.some.injEq, reduceCtorEq] at h
    subst h; rename_i ds k a hsrc hk' hx
    simp only [execOp]
    unfold intKindOf at hk'
    split at hk'
    · rename_i k'' hu
      simp only [Option.some.injEq] at hk'; subst hk'
      exact ok_convI hu ⟨_, hsrc⟩ hs hx he hv
    · cases hk'
  case fieldAddr s x f =>
    split at h
    case h_2 => cases h
    rename_i fields a ht hx
    split at h
    case h_2 => cases h
    rename_i fd hf
    split at h
    case h_2 => cases h
    rename_i n hsz
    simp only [Option.some.injEq] at h
    subst h
    simp only [execOp]
    exact ok_faddr ht hf rfl ⟨n, hsz⟩ hs hx he hv
  case field s x f =>
    split at h
    case h_2 => cases h
    rename_i fields a ht hx
    split at h
    case h_2 => cases h
    rename_i fd hf
    split at h
    case h_2 => cases h
    rename_i n hn'
    simp only [Option.some.injEq] at h
    subst h
    simp only [execOp]
    refine ok_fld ht hf rfl ?_ hs hx he hv
    unfold cellsN at hn'
    split at hn'
    · simp only [Option.some.injEq] at hn'; subst hn'; assumption
    · rename_i hagg
      split at hn'
      · rename_i k hk'
        simp only [Option.some.injEq] at hn'; subst hn'; exact ⟨hagg, hk'⟩
      · cases hn'
    · cases hn'
  case indexAddr t x i =>
    split at h
    · rename_i el a b ht hx hy
      split at h <;> simp only [Option.some.injEq, reduceCtorEq] at h
      subst h; rename_i z hz
      simp only [execOp]
      exact ok_iaddr ht hz hs hx hy he hv hp
    · rename_i len el a b ht hx hy
      split at h <;> simp only [Option.some.injEq, reduceCtorEq] at h
      subst h; rename_i z hz
      simp only [execOp]
      exact ok_aaddr ht hz hs hx hy he hv hp
    · cases h
  case extract x i =>
    split at h <;> simp only [Option.some.injEq, reduceCtorEq] at h
    subst h; rename_i a hx
    simp only [execOp]
    exact ok_ext hs hx he hv
  case nilCheck x =>
    split at h <;> simp only [Option.some.injEq, reduceCtorEq] at h
    subst h; rename_i a hx
    exact ok_nilck rfl hs hx he hv
  case makeSlice t l c =>
    split at h
    case h_2 => cases h
    rename_i el ht
    split at h
    case h_2 => cases h
    rename_i i a b hi hx hy
    split at h
    case h_2 => cases h
    rename_i z hz
    split at h
    case isFalse => cases h
    rename_i hc
    simp only [Option.some.injEq] at h
    subst h
    simp only [execOp]
    exact ok_mkslice ht hi hz rfl rfl hc.1 hc.2 hs hx hy he hv hp
  case makeMap t rsv =>
    cases rsv with
    | some _ => simp only [reduceCtorEq] at h
    | none =>
      simp only at h
      split at h
      case h_2 => cases h
      split at h <;> simp only [Option.some.injEq, reduceCtorEq] at h
      subst h
      simp only [execOp, Option.map_none]
      exact ok_mkmap hs hv
  case lookup t x i ok =>
    split at h
    case h_2 => cases h
    rename_i kt el a b ht hx hy
    split at h
    case h_2 => cases h
    rename_i k z hk' hz
    split at h
    case isFalse => cases h
    rename_i hc
    simp only [Option.some.injEq] at h
    subst h
    simp only [execOp]
    unfold intKindOf at hk'
    split at hk'
    · rename_i k'' hu
      simp only [Option.some.injEq] at hk'; subst hk'
      exact ok_lookup ht hu hz hc.1 (fun vs e => by rw [e] at hc; simp [notTuple] at hc) hs hx hy he hv
    · cases hk'
  case mapUpdate t x i y =>
    split at h
    case h_2 => cases h
    rename_i kt el a b c ht hx hy hz
    split at h <;> simp only [Option.some.injEq, reduceCtorEq] at h
    subst h; rename_i k hk'
    simp only [execOp]
    unfold intKindOf at hk'
    split at hk'
    · rename_i k'' hu
      simp only [Option.some.injEq] at hk'; subst hk'
      exact ok_mset ht hu hs hx hy hz he hv
    · cases hk'
  case call c =>
    obtain ⟨callee, args, argTypes⟩ := c
    obtain ⟨args⟩ := args
    obtain ⟨argTypes⟩ := argTypes
    simp only at h
    split at h
    · -- len
      rename_i x t
      obtain ⟨bs, hrun⟩ := exec_builtin1 ρ .len x ⟨[t]⟩ dst type pos after guard
      rw [hrun]
      split at h <;> simp only [Option.some.injEq, reduceCtorEq] at h
      · subst h; rename_i el a ht hx
        exact ok_len ht hs hx he hv
      · subst h; rename_i kt el a ht hx
        exact ok_mlen ht hs hx he hv
    · -- append
      rename_i x y t u
      obtain ⟨bs, hrun⟩ := exec_builtin2 ρ .append x y ⟨[t, u]⟩ dst type pos after guard
      rw [hrun]
      split at h
      case h_2 => cases h
      rename_i el a b ht hx hy
      split at h
      case h_2 => cases h
      rename_i i hi
      split at h
      case h_2 => cases h
      rename_i z hz
      split at h
      case isFalse => cases h
      rename_i hc
      simp only [Option.some.injEq] at h
      subst h
      obtain ⟨rfl, hzs⟩ := hc
      exact ok_append ht hi hz rfl rfl hzs hs hx hy he hv hp
    · obtain ⟨bs, hrun⟩ := exec_builtin2 ρ .min _ _ ⟨argTypes⟩ dst type pos after guard
      rw [hrun]
      split at h <;> simp only [Option.some.injEq, reduceCtorEq] at h
      subst h; rename_i a b hx hy
      exact ok_minmax (isMax := false) hs hx hy he hv
    · obtain ⟨bs, hrun⟩ := exec_builtin2 ρ .max _ _ ⟨argTypes⟩ dst type pos after guard
      rw [hrun]
      split at h <;> simp only [Option.some.injEq, reduceCtorEq] at h
      subst h; rename_i a b hx hy
      exact ok_minmax (isMax := true) hs hx hy he hv
    · split at h
      case h_2 => cases h
      split at h
      case isFalse => cases h
      split at h <;> simp only [Option.some.injEq, reduceCtorEq] at h
      subst h; simp [AOp.isCall] at hn
    · split at h <;> simp only [Option.some.injEq, reduceCtorEq] at h
      subst h; simp [AOp.isCall] at hn
    · cases h
  all_goals cases h
end
end Go.Abs
