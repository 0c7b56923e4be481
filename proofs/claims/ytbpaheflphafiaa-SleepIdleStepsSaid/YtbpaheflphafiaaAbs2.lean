/- The abstract layer, part 2: abstract operations, their evaluation, and that the model's operations do what the evaluation says. -/
import Derived.Test.YtbpaheflphafiaaAbs1
import Derived.Laws.Append
import Derived.Laws.AppendOwn
import Derived.Laws.MakeOwn
import Derived.Laws.CopyRow
import Derived.Laws.StructEq
import Derived.Laws.Entries
set_option linter.unusedSimpArgs false
set_option linter.unusedVariables false
set_option linter.unnecessarySimpa false
namespace Go.Abs

inductive AX where
  | t (n : Nat)
  | k (v : AV)

inductive AOp where
  | mov (x : AX)
  | pick (c a b : AX)
  | alloc (zero : List Value)
  | box (x : AX)
  | build (zero : List Value) (parts : List (Nat × Nat × AX))
  | bslice (esz len : Nat) (zero : List Value) (parts : List (Nat × Nat × AX))
  | load (n : Option Nat) (x : AX)
  | store (n : Nat) (x y : AX)
  | bin (op : BinOp) (x y : AX)
  | eqa (shape : List Bool) (neg : Bool) (x y : AX)
  | un (op : UnOp) (x : AX)
  | convI (k : IntKind) (x : AX)
  | faddr (off : Nat) (x : AX)
  | fld (off : Nat) (n : Option Nat) (x : AX)
  | iaddr (esz : Nat) (x i : AX)
  | aaddr (len esz : Nat) (x i : AX)
  | len (x : AX)
  | mlen (x : AX)
  | eqb (neg : Bool) (x y : AX)
  | isnil (kd : Nat) (neg : Bool) (x : AX)
  | aslice (len esz : Nat) (x : AX)
  | append (esz bytes : Nat) (x y : AX)
  | slice (esz : Nat) (x : AX) (lo hi mx : Option AX)
  | mkslice (esz bytes : Nat) (zero : List Value) (n c : AX)
  | ext (x : AX) (i : Nat)
  | mkfn (f : Fn) (first cap : List AX)
  | nilck (x : AX)
  | minmax (isMax : Bool) (x y : AX)
  | mkmap (k : IntKind)
  | lookup (k : IntKind) (zero : Value) (ok : Bool) (x i : AX)
  | mset (k : IntKind) (x i y : AX)
  | call (f : FuncId) (xs : List AX)
  | callv (x : AX) (xs : List AX)
  | sidx (x i : AX)
  | bad

structure Res where
  val : Option AV
  wr : List (Nat × AObj)

def nid (d : Nat) : Nat := 16 * (d + 1)

def splice : List AV → Nat → List AV → List AV
  | cs, 0, p => p ++ cs.drop p.length
  | c :: cs, n + 1, p => c :: splice cs n p
  | [], _ + 1, p => p

theorem splice_eq : ∀ (cs : List AV) (n : Nat) (p : List AV), n ≤ cs.length → splice cs n p = cs.take n ++ p ++ cs.drop (n + p.length)
  | cs, 0, p, _ => by simp [splice]
  | c :: cs, n + 1, p, h => by
    have := splice_eq cs n p (by simpa using h)
    simp only [splice, this, List.take_succ_cons, List.cons_append]
    have e : n + 1 + p.length = (n + p.length) + 1 := by omega
    rw [e, List.drop_succ_cons]
  | [], n + 1, p, h => by simp at h

def Sq.app (s t : Sq) : Sq := ⟨s.n + t.n, fun i => if i < s.n then s.g i else t.g (i - s.n)⟩
def Sq.set (s : Sq) (k : Nat) (c : List AV) : Sq := ⟨s.n, fun i => if i = k then c else s.g i⟩
def Sq.nil : Sq := ⟨0, fun _ => []⟩

def takeE : Nat → List AV → Option (List AV)
  | 0, _ => some []
  | n + 1, c :: cs => (takeE n cs).map (c :: ·)
  | _ + 1, [] => none

theorem takeE_spec : ∀ (n : Nat) (cs r : List AV), takeE n cs = some r → r = cs.take n ∧ n ≤ cs.length
  | 0, cs, r, h => by simp [takeE] at h; simp [h]
  | n + 1, c :: cs, r, h => by
    simp only [takeE, Option.map_eq_some_iff] at h
    obtain ⟨r', h', rfl⟩ := h
    obtain ⟨rfl, hl⟩ := takeE_spec n cs r' h'
    exact ⟨rfl, by simpa using hl⟩
  | n + 1, [], r, h => by simp [takeE] at h

def takeN : Option Nat → List AV → Option AV
  | none, c :: _ => some c
  | none, [] => none
  | some n, cs => (takeE n cs).map .agg

/-- the cells that a pointer leads to -/
def cellsOf (m : Nat → Option AObj) (id k tot : Nat) : Option (Prop × List AV) :=
  match m id with
  | some (.box cs) => some (k = 0 ∧ tot = 1, cs)
  | some (.arr _ s) => some (tot = s.n, s.g k)
  | some (.frz _ s) => some (tot = s.n, s.g k)
  | some (.frzb cs) => some (k = 0 ∧ tot = 1, cs)
  | _ => none

/-- a value that goes into a slice's element: a slice of the call's own is frozen -/
def freezeCell (m : Nat → Option AObj) : AV → Option (Prop × AV × List (Nat × AObj))
  | .sl id off len tot => match m id with
    | some (.arr z s) => some (tot = s.n, .dsl z len (fun i => s.g (off + i)), [(id, .frz z s)])
    | some (.frz z s) => some (tot = s.n, .dsl z len (fun i => s.g (off + i)), [])
    | _ => none
  | v => if v.pure then some (True, v, []) else none

/-- is it nil? kd: 0 a slice, 1 a pointer, 2 a map, 3 a function -/
def isNilA (m : Nat → Option AObj) : Nat → AV → Option (Prop × Bool)
  | 0, .sc (.slice a _ _) => some (True, a.isNone)
  | 0, .dsl _ n _ => some (0 < n, false)
  | 0, .dslx _ n _ => some (0 < n, false)
  | 0, .sl id _ n tot => match m id with
    | some (.arr _ s) => some (0 < n ∧ tot = s.n, false)
    | some (.frz _ s) => some (0 < n ∧ tot = s.n, false)
    | _ => none
  | 1, .sc (.pointer a) => some (True, a.isNone)
  | 1, .ptr .. => some (True, false)
  | 1, .fptr _ => some (True, false)
  | 2, .sc (.map a) => some (True, a.isNone)
  | 2, .mp _ => some (True, false)
  | 3, .sc .nilFunc => some (True, true)
  | 3, .fn .. => some (True, false)
  | _, _ => none

def esL (e : AX → Option AV) : List AX → Option (List AV)
  | [] => some []
  | x :: xs => match e x, esL e xs with
    | some v, some vs => some (v :: vs)
    | _, _ => none

def optI (e : AX → Option AV) : Option AX → Option (Option Int)
  | none => some none
  | some x => match e x with
    | some (.sc (.int _ j)) => some (some j)
    | _ => none

/-- what is appended -/
def source (m : Nat → Option AObj) (esz : Nat) : AV → Option (Prop × Sq)
  | .sc (.slice none 0 0) => some (True, ⟨0, fun _ => []⟩)
  | .sc (.slice (some _) 0 _) => some (True, ⟨0, fun _ => []⟩)
  | .dsl z n g => if z = esz then some (True, ⟨n, g⟩) else none
  | .dslx z n g => if z = esz then some (True, ⟨n, g⟩) else none
  | .sl id off len tot => match m id with
    | some (.arr z s) => if z = esz then some (tot = s.n, ⟨len, fun i => s.g (off + i)⟩) else none
    | some (.frz z s) => if z = esz then some (tot = s.n, ⟨len, fun i => s.g (off + i)⟩) else none
    | _ => none
  | _ => none

def binAV : BinOp → AV → AV → Option (Prop × AV)
  | .add, .sc (.int k a), .sc (.int k' b) => if k = k' then some (True, .sc (.int k (k.wrap (a + b)))) else none
  | .sub, .sc (.int k a), .sc (.int k' b) => if k = k' then some (True, .sc (.int k (k.wrap (a - b)))) else none
  | .mul, .sc (.int k a), .sc (.int k' b) => if k = k' then some (True, .sc (.int k (k.wrap (a * b)))) else none
  | .quo, .sc (.int k a), .sc (.int k' b) => if k = k' then some (b ≠ 0, .sc (.int k (k.wrap (a.tdiv b)))) else none
  | .rem, .sc (.int k a), .sc (.int k' b) => if k = k' then some (b ≠ 0, .sc (.int k (a.tmod b))) else none
  | .and, .sc (.int k a), .sc (.int k' b) => if k = k' then some (True, .sc (.int k (k.wrap (BitVec.ofInt k.bits a &&& BitVec.ofInt k.bits b).toNat))) else none
  | .or, .sc (.int k a), .sc (.int k' b) => if k = k' then some (True, .sc (.int k (k.wrap (BitVec.ofInt k.bits a ||| BitVec.ofInt k.bits b).toNat))) else none
  | .xor, .sc (.int k a), .sc (.int k' b) => if k = k' then some (True, .sc (.int k (k.wrap (BitVec.ofInt k.bits a ^^^ BitVec.ofInt k.bits b).toNat))) else none
  | .shl, .sc (.int k a), .sc (.int _ b) => some (0 ≤ b, .sc (.int k (k.wrap (a * 2 ^ (min b.toNat k.bits)))))
  | .shr, .sc (.int k a), .sc (.int _ b) => some (0 ≤ b, .sc (.int k (a.fdiv (2 ^ (min b.toNat k.bits)))))
  | .eql, .sc (.int k a), .sc (.int k' b) => if k = k' then some (True, .sc (.bool (a == b))) else none
  | .neq, .sc (.int k a), .sc (.int k' b) => if k = k' then some (True, .sc (.bool (a != b))) else none
  | .lss, .sc (.int k a), .sc (.int k' b) => if k = k' then some (True, .sc (.bool (decide (a < b)))) else none
  | .leq, .sc (.int k a), .sc (.int k' b) => if k = k' then some (True, .sc (.bool (decide (a ≤ b)))) else none
  | .gtr, .sc (.int k a), .sc (.int k' b) => if k = k' then some (True, .sc (.bool (decide (a > b)))) else none
  | .geq, .sc (.int k a), .sc (.int k' b) => if k = k' then some (True, .sc (.bool (decide (a ≥ b)))) else none
  | _, _, _ => none

def unAV : UnOp → AV → Option AV
  | .not, .sc (.bool b) => some (.sc (.bool !b))
  | .neg, .sc (.int k n) => some (.sc (.int k (k.wrap (0 - n))))
  | .xor, .sc (.int k n) => some (.sc (.int k (k.wrap (BitVec.ofInt k.bits (if k.signed then -1 else k.max) ^^^ BitVec.ofInt k.bits n).toNat)))
  | _, _ => none

/-- two aggregates of integers and bools, cell by cell; shape: true for an integer -/
def eqCells : List Bool → List AV → List AV → Option Bool
  | [], [], [] => some true
  | true :: s, .sc (.int k a) :: xs, .sc (.int k' b) :: ys => if k = k' then (eqCells s xs ys).map fun r => (a == b) && r else none
  | false :: s, .sc (.bool a) :: xs, .sc (.bool b) :: ys => (eqCells s xs ys).map fun r => (a == b) && r
  | _, _, _ => none

def fillA (e : AX → Option AV) : List AV → List (Nat × Nat × AX) → Option (List AV)
  | cs, [] => some cs
  | cs, (off, size, x) :: r => match e x with
    | some (.tup _) => none
    | some v => if v.cells.length = size ∧ off + size ≤ cs.length then fillA e (splice cs off v.cells) r else none
    | none => none

def zeroAV : Value → AV
  | .agg cs => .agg (cs.toList.map .sc)
  | z => .sc z

def mget : List (Int × AV) → Int → Option AV
  | [], _ => none
  | (z, v) :: r, k => if k == z then some v else mget r k
def mput : List (Int × AV) → Int → AV → List (Int × AV)
  | [], k, v => [(k, v)]
  | (z, u) :: r, k, v => if k == z then (z, v) :: r else (z, u) :: mput r k v

def freezeL (m : Nat → Option AObj) : List AV → Option (Prop × List AV × List (Nat × AObj))
  | [] => some (True, [], [])
  | c :: cs => match freezeCell m c, freezeL m cs with
    | some (p, c', w), some (q, cs', w') => some (p ∧ q, c' :: cs', w ++ w')
    | _, _ => none

/-- evaluation of an operation: its condition, its result -/
def eval (op : AOp) (e : AX → Option AV) (m : Nat → Option AObj) (d : Nat) : Option (Prop × Res) :=
  match op with
  | .mov x => match e x with
    | some v => some (True, ⟨some v, []⟩)
    | none => none
  | .alloc zero => match m (nid d) with
    | none => some (True, ⟨some (.ptr (nid d) 0 0 1), [(nid d, .box (zero.map .sc))]⟩)
    | some _ => none
  | .box x => match m (nid d), e x with
    | none, some (.agg cs) => some (True, ⟨some (.ptr (nid d) 0 0 1), [(nid d, .box cs)]⟩)
    | none, some (.tup _) => none
    | none, some v => some (True, ⟨some (.ptr (nid d) 0 0 1), [(nid d, .box [v])]⟩)
    | _, _ => none
  | .build zero parts => match fillA e (zero.map .sc) parts with
    | some cs => some (True, ⟨some (.agg cs), []⟩)
    | none => none
  | .bslice esz len zero parts => match m (nid d), fillA e (zero.map .sc) parts with
    | none, some cs => match freezeL m cs with
      | some (p, cs', w) => some (p, ⟨some (.sl (nid d) 0 len len), w ++ [(nid d, .arr esz ⟨len, fun i => (cs'.drop (i * esz)).take esz⟩)]⟩)
      | none => none
    | _, _ => none
  | .load n x => match e x with
    | some (.fptr cs) => (takeN n cs).map fun v => (True, ⟨some v, []⟩)
    | some (.ptr id k o tot) => match cellsOf m id k tot with
      | some (p, cs) => (takeN n (cs.drop o)).map fun v => (p, ⟨some v, []⟩)
      | none => none
    | _ => none
  | .store n x y => match e x, e y with
    | some (.ptr id k o tot), some v => match m id with
      | some (.box cs) => if v.cells.length = n ∧ o + n ≤ cs.length ∧ v.cells.all AV.one then some (k = 0 ∧ tot = 1, ⟨none, [(id, .box (splice cs o v.cells))]⟩) else none
      | some (.arr z s) => match freezeL m v.cells with
        | some (p, cs', w) => some (p ∧ tot = s.n ∧ cs'.length = n ∧ o + n ≤ z ∧ (w.all fun x => x.1 != id), ⟨none, w ++ [(id, .arr z (s.set k (splice (s.g k) o cs')))]⟩)
        | none => none
      | _ => none
    | _, _ => none
  | .bin op x y => match e x, e y with
    | some a, some b => (binAV op a b).map fun (p, v) => (p, ⟨some v, []⟩)
    | _, _ => none
  | .eqa shape neg x y => match e x, e y with
    | some (.agg xs), some (.agg ys) => (eqCells shape xs ys).map fun b => (True, ⟨some (.sc (.bool (if neg then !b else b))), []⟩)
    | _, _ => none
  | .un op x => match e x with
    | some a => (unAV op a).map fun v => (True, ⟨some v, []⟩)
    | none => none
  | .convI k x => match e x with
    | some (.sc (.int _ n)) => some (True, ⟨some (.sc (.int k (k.wrap n))), []⟩)
    | _ => none
  | .faddr off x => match e x with
    | some (.fptr cs) => some (True, ⟨some (.fptr (cs.drop off)), []⟩)
    | some (.ptr id i o tot) => some (True, ⟨some (.ptr id i (o + off) tot), []⟩)
    | _ => none
  | .fld off n x => match e x with
    | some (.agg cs) => (takeN n (cs.drop off)).map fun v => (True, ⟨some v, []⟩)
    | _ => none
  | .iaddr esz x i => match e x, e i with
    | some (.dsl z n g), some (.sc (.int _ j)) => if z = esz then some (0 ≤ j ∧ j < n, ⟨some (.fptr (g j.toNat)), []⟩) else none
    | some (.dslx z n g), some (.sc (.int _ j)) => if z = esz then some (0 ≤ j ∧ j < n, ⟨some (.fptr (g j.toNat)), []⟩) else none
    | some (.sl id off len tot), some (.sc (.int _ j)) => match m id with
      | some (.arr z s) => if z = esz then some (tot = s.n ∧ 0 ≤ j ∧ j < len, ⟨some (.ptr id (off + j.toNat) 0 tot), []⟩) else none
      | some (.frz z s) => if z = esz then some (tot = s.n ∧ 0 ≤ j ∧ j < len, ⟨some (.ptr id (off + j.toNat) 0 tot), []⟩) else none
      | _ => none
    | _, _ => none
  | .aaddr len esz x i => match e x, e i with
    | some (.fptr cs), some (.sc (.int _ j)) => some (0 ≤ j ∧ j < len, ⟨some (.fptr (cs.drop (j.toNat * esz))), []⟩)
    | some (.ptr id k o tot), some (.sc (.int _ j)) => some (0 ≤ j ∧ j < len, ⟨some (.ptr id k (o + j.toNat * esz) tot), []⟩)
    | _, _ => none
  | .len x => match e x with
    | some (.dsl _ n _) => some (True, ⟨some (.sc (.int .i64 n)), []⟩)
    | some (.dslx _ n _) => some (True, ⟨some (.sc (.int .i64 n)), []⟩)
    | some (.sl _ _ n _) => some (True, ⟨some (.sc (.int .i64 n)), []⟩)
    | some (.sc (.slice _ n _)) => some (True, ⟨some (.sc (.int .i64 n)), []⟩)
    | _ => none
  | .sidx x i => match e x, e i with
    | some (.sc (.string s)), some (.sc (.int _ j)) => some (0 ≤ j ∧ j.toNat < s.size, ⟨some (.sc (.int .u8 ((s.data.getD j.toNat 0).toNat : Int))), []⟩)
    | _, _ => none
  | .eqb neg x y => match e x, e y with
    | some (.sc (.bool a)), some (.sc (.bool b)) => some (True, ⟨some (.sc (.bool (if neg then !(a == b) else (a == b)))), []⟩)
    | _, _ => none
  | .isnil kd neg x => match e x with
    | some a => (isNilA m kd a).map fun (p, b) => (p, ⟨some (.sc (.bool (if neg then !b else b))), []⟩)
    | none => none
  | .slice esz x lo hi mx => match e x, optI e lo, optI e hi, optI e mx with
    | some (.dsl z n g), some l, some h, some m => if z = esz then (match m with
      | none => some (0 ≤ l.getD 0 ∧ l.getD 0 ≤ h.getD n ∧ h.getD n ≤ n, ⟨some (.dsl z (h.getD n - l.getD 0).toNat (fun i => g ((l.getD 0).toNat + i))), []⟩)
      | some k => some (0 ≤ l.getD 0 ∧ l.getD 0 ≤ h.getD n ∧ h.getD n ≤ n ∧ h.isSome ∧ k = h.getD n, ⟨some (.dslx z (h.getD n - l.getD 0).toNat (fun i => g ((l.getD 0).toNat + i))), []⟩)) else none
    | some (.dslx z n g), some l, some h, some none => if z = esz then
      some (0 ≤ l.getD 0 ∧ l.getD 0 ≤ h.getD n ∧ h.getD n ≤ n, ⟨some (.dsl z (h.getD n - l.getD 0).toNat (fun i => g ((l.getD 0).toNat + i))), []⟩) else none
    | some (.sl id off n tot), some l, some h, some none => match m id with
      | some (.arr z s) => if z = esz then some (tot = s.n ∧ 0 ≤ l.getD 0 ∧ l.getD 0 ≤ h.getD n ∧ h.getD n ≤ n, ⟨some (.sl id (off + (l.getD 0).toNat) (h.getD n - l.getD 0).toNat tot), []⟩) else none
      | some (.frz z s) => if z = esz then some (tot = s.n ∧ 0 ≤ l.getD 0 ∧ l.getD 0 ≤ h.getD n ∧ h.getD n ≤ n, ⟨some (.sl id (off + (l.getD 0).toNat) (h.getD n - l.getD 0).toNat tot), []⟩) else none
      | _ => none
    | _, _, _, _ => none
  | .aslice len esz x => match e x with
    | some (.fptr cs) => some (len * esz ≤ cs.length, ⟨some (.dsl esz len (fun i => (cs.drop (i * esz)).take esz)), []⟩)
    | some (.ptr id k o tot) => match m id with
      | some (.box cs) => if cs.all AV.pure then some (k = 0 ∧ tot = 1 ∧ o + len * esz ≤ cs.length, ⟨some (.dsl esz len (fun i => (cs.drop (o + i * esz)).take esz)), [(id, .frzb cs)]⟩) else none
      | _ => none
    | _ => none
  | .mlen x => match e x with
    | some (.mp id) => match m id with
      | some (.map _ es) => some (True, ⟨some (.sc (.int .i64 es.length)), []⟩)
      | _ => none
    | _ => none
  | .append esz bytes x y => match e x, e y with
    | some (.sc (.slice none 0 0)), some b => match m (nid d), source m esz b with
      | none, some (p, t) => some (p ∧ t.n * bytes ≤ 140737488355328 ∧ t.n ≤ maxLen, ⟨some (.sl (nid d) 0 t.n t.n), [(nid d, .arr esz t)]⟩)
      | _, _ => none
    | some (.dslx z n g), some b => match source m esz b with
      | some (p, t) => if z = esz then some (p ∧ (n + t.n) * bytes ≤ 140737488355328 ∧ n + t.n ≤ maxLen, ⟨some (.dsl esz (n + t.n) (Sq.app ⟨n, g⟩ t).g), []⟩) else none
      | none => none
    | some (.sl id off n tot), some b => match m id, source m esz b with
      | some (.arr z s), some (p, t) => if z = esz then some (p ∧ off = 0 ∧ n = s.n ∧ tot = s.n ∧ (s.n + t.n) * bytes ≤ 140737488355328 ∧ s.n + t.n ≤ maxLen,
          ⟨some (.sl id 0 (s.n + t.n) (s.n + t.n)), [(id, .arr z (s.app t))]⟩) else none
      | _, _ => none
    | _, _ => none
  | .ext x i => match e x with
    | some (.tup cs) => match cs[i]? with
      | some v => some (True, ⟨some v, []⟩)
      | none => none
    | _ => none
  | .mkfn f first cap => match esL e first, esL e cap with
    | some a, some b => some (True, ⟨some (.fn f a b), []⟩)
    | _, _ => none
  | .nilck x => match e x with
    | some (.ptr id k o tot) => some (True, ⟨some (.ptr id k o tot), []⟩)
    | some (.fptr cs) => some (True, ⟨some (.fptr cs), []⟩)
    | _ => none
  | .mkslice esz bytes zero n c => match m (nid d), e n, e c with
    | none, some (.sc (.int _ l)), some (.sc (.int _ k)) => some (0 ≤ l ∧ l ≤ k ∧ (bytes : Int) * k ≤ 281474976710656 ∧ k ≤ 9223372036854775807,
        ⟨some (.sl (nid d) 0 l.toNat l.toNat), [(nid d, .arr esz ⟨l.toNat, fun _ => zero.map .sc⟩)]⟩)
    | _, _, _ => none
  | .minmax isMax x y => match e x, e y with
    | some (.sc (.int k a)), some (.sc (.int _ b)) => some (True, ⟨some (.sc (.int k (if isMax then (if b > a then b else a) else (if b < a then b else a)))), []⟩)
    | _, _ => none
  | .mkmap k => match m (nid d) with
    | none => some (True, ⟨some (.mp (nid d)), [(nid d, .map k [])]⟩)
    | some _ => none
  | .lookup k zero ok x i => match e x, e i with
    | some (.mp id), some (.sc (.int k' z)) => match m id with
      | some (.map k'' es) => if k = k' ∧ k = k'' then
          let v := (mget es z).getD (zeroAV zero)
          some (True, ⟨some (if ok then .tup [v, .sc (.bool (mget es z).isSome)] else v), []⟩) else none
      | _ => none
    | _, _ => none
  | .mset k x i y => match e x, e i, e y with
    | some (.mp id), some (.sc (.int k' z)), some v => match m id with
      | some (.map k'' es) => if k = k' ∧ k = k'' ∧ v.flat then some (True, ⟨none, [(id, .map k (mput es z v))]⟩) else none
      | _ => none
    | _, _, _ => none
  | _ => none

def constAV : Value → Option AV
  | .agg cs => if cs.all Value.oneCell' then some (.agg (cs.toList.map .sc)) else none
  | .tuple _ => none
  | v => some (.sc v)

def cx : Operand → Option AX
  | .tmp t => some (.t t)
  | .const v => (constAV v).map .k
  | .func f => some (.k (.fn (.func f) [] []))
  | .global _ => none

def wrm (m : Nat → Option AObj) (wr : List (Nat × AObj)) : Nat → Option AObj := wr.foldl (fun m p => upd m p.1 (some p.2)) m

section
variable {P : Program} {G : Nat → Prop} {w : World} {ob : Place} {m : Nat → Option AObj}

/-- the operands that can be read stand for the model's -/
def OpRel (G : Nat → Prop) (w : World) (ob : Place) (ρ : Operand → Value) (e : AX → Option AV) : Prop :=
  ∀ x ax av, cx x = some ax → e ax = some av → Rel G w ob av (ρ x)

/-- the model's operation does what the result says -/
def OpOk (P : Program) (G : Nat → Prop) (w : World) (ob : Place) (m : Nat → Option AObj) (s : Sem Next) (r : Res) : Prop :=
  ∃ G' w' ob' v, ((s.run P w = .ok (.value v) w') ∨ (s.run P w = .ok .skip w' ∧ v = undef)) ∧ SimO G' w' ob' (wrm m r.wr) ∧
    (∀ av, r.val = some av → Rel G' w' ob' av v) ∧ OBext ob ob' ∧ Fr G w ob G' w' ob'

theorem OpOk.quiet {s : Sem Next} {av : AV} {v : Value} (hs : SimO G w ob m) (h : s.run P w = .ok (.value v) w) (hr : Rel G w ob av v) : OpOk P G w ob m s ⟨some av, []⟩ :=
  ⟨G, w, ob, v, .inl h, hs, fun _ e => by injection e with e; exact e ▸ hr, OBext.refl ob, Fr.refl G w ob⟩

theorem Fr.of_heap {w' : World} {ob' : Place} (hsz : w.heap.size ≤ w'.heap.size) (hsame : ∀ b, b < w.heap.size → (G b ∨ ¬ blks ob b) → w'.heap[b]? = w.heap[b]?)
    (hb : ∀ b, blks ob' b → blks ob b ∨ w.heap.size ≤ b) (ho : w'.os = w.os) (ht : w'.tape = w.tape) (hu : w'.output = w.output) : Fr G w ob G w' ob' :=
  ⟨hsz, hsame, hb, fun _ h => h, fun _ h => .inl h, ho, ht, hu⟩

/-- a new object -/
theorem OpOk.new {s : Sem Next} {id : Nat} {o : AObj} {i : Info} {av : AV} {v : Value} {x : Obj} {w0 : World} (hs : SimO G w ob m) (hid : m id = none)
    (hw0 : w0.heap = w.heap) (hos : w0.os = w.os) (ht : w0.tape = w.tape) (hu : w0.output = w.output)
    (h : s.run P w = .ok (.value v) (w0.alloc x)) (hb : ∀ b, i.blk = some b → b = w.heap.size)
    (ho : ObjRel G (w0.alloc x) (upd ob id (some i)) i o) (hr : Rel G (w0.alloc x) (upd ob id (some i)) av v) : OpOk P G w ob m s ⟨some av, [(id, o)]⟩ := by
  have hsz : (w0.alloc x).heap.size = w.heap.size + 1 := by simp [hw0]
  have hold : ∀ b, b < w.heap.size → (w0.alloc x).heap[b]? = w.heap[b]? := fun b hb => by rw [heap_alloc_old _ _ _ (by rw [hw0]; exact hb), hw0]
  have hno : ob id = none := (hs.dom id).1 hid
  obtain ⟨h1, h2, h3⟩ := hs.update (w' := w0.alloc x) id o i (by omega) (fun b hb _ => hold b hb) (fun j hj => by rw [hno] at hj; cases hj)
    (fun b hbb => .inr (by rw [hb b hbb]; exact Nat.le_refl _)) (fun j hj => by rw [hno] at hj; cases hj) ho (fun _ b hbb hG => by have := hs.lt b hG; rw [hb b hbb] at this; omega)
  exact ⟨G, w0.alloc x, _, v, .inl h, h1, fun _ e => by injection e with e; exact e ▸ hr, h2,
    Fr.of_heap (by omega) (fun b hb _ => hold b hb) h3 hos ht hu⟩
end
end Go.Abs
