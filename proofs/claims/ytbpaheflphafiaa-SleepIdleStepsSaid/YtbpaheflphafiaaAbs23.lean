/- The abstract layer, part 23: the same working out, with the rest of the work kept where rewriting does not look. -/
import Derived.Test.YtbpaheflphafiaaAbs22
set_option linter.unusedSimpArgs false
set_option linter.unusedVariables false
set_option linter.unnecessarySimpa false
namespace Go.Abs

class Cont where
  q : Out → St → Prop
class ContS where
  q : St → Prop
class ContR where
  q : Bool → Res → Prop

def Qi [Q : Cont] (o : Out) (σ : St) : Prop := Q.q o σ
def Si [Q : ContS] (σ : St) : Prop := Q.q σ
def Ri [Q : ContR] (b : Bool) (r : Res) : Prop := Q.q b r

section
variable (P : Program) (N : Nat) (K : List Nat)

def Wi (c : ACode) [Q : Cont] (σ : St) : Prop := W P N K c Q.q σ
def Wpi (c : ACode) [Q : Cont] (σ : St) : Prop := Wp P N K c Q.q σ
def Wsi (l : List AOper) [Q : ContS] (σ : St) : Prop := wseq P l Q.q σ
def Wni (l : List AOper) (seen : List (List Nat × List Nat)) [Q : ContS] (σ : St) : Prop := wany P l seen Q.q σ
def Woi (o : AOper) (σ : St) [Q : ContR] : Prop := wop P o σ Q.q
def CallGi (m : Nat → Option AObj) (f : FuncId) (avs : List AV) (b : Bool) [Q : ContR] : Prop := CallG P m f avs b (Q.q b)

def WopMi (o : AOper) (σ : St) (b : Bool) [Q : ContR] : Prop :=
  match o.op with
  | .pick c x y => match σ.ev c with
    | some (cc, .sc (.bool q)) => match σ.ev x, σ.ev y with
      | some (c1, .sc (.bool p1)), some (c2, .sc (.bool p2)) =>
        (b = true → cc = true ∧ (q = true → c1 = true) ∧ (q = false → c2 = true)) ∧ Ri b ⟨some (.sc (.bool (if q then p1 else p2))), []⟩
      | some (c1, .sc (.bool p1)), none => q = true ∧ (b = true → cc = true ∧ c1 = true) ∧ Ri b ⟨some (.sc (.bool p1)), []⟩
      | none, some (c2, .sc (.bool p2)) => q = false ∧ (b = true → cc = true ∧ c2 = true) ∧ Ri b ⟨some (.sc (.bool p2)), []⟩
      | _, _ => False
    | _ => b = false ∧ Ri false ⟨none, []⟩
  | .call f xs => match target σ (.call f xs) with
    | some (f, avs) => allC σ b (AOp.call f xs).ops ∧ CallGi P σ.objs f avs b
    | none => b = false ∧ Ri false ⟨none, []⟩
  | .callv x xs => match target σ (.callv x xs) with
    | some (f, avs) => allC σ b (AOp.callv x xs).ops ∧ CallGi P σ.objs f avs b
    | none => b = false ∧ Ri false ⟨none, []⟩
  | op => match eval op σ.e σ.objs (o.dst.getD 0) with
    | some (p, r) => allC σ b op.ops ∧ (b = true → p) ∧ (r.wr ≠ [] → b = true) ∧ Ri b r
    | none => b = false ∧ Ri false ⟨none, []⟩

@[reducible] def thenC (b : ACode) (Q : Cont) : Cont := ⟨Out.then (W P N K b Q.q) Q.q⟩
@[reducible] def blockC (id : Nat) (Q : Cont) : Cont := ⟨Out.inBlock id Q.q⟩
@[reducible] def normC (Q : Cont) : ContS := ⟨Q.q .normal⟩
@[reducible] def seqC (os : List AOper) (Q : ContS) (d : Option Nat) (σ : St) : ContR := ⟨fun b r => wseq P os Q.q (σ.put d b r)⟩
@[reducible] def anyC (o : AOper) (os : List AOper) (seen : List (List Nat × List Nat)) (Q : ContS) (σ : St) : ContR :=
  ⟨fun b r => keepOff seen (foot σ o) (keys r) o.chk ∧ wany P os (seen ++ [(foot σ o, keys r)]) Q.q (σ.put o.dst b r)⟩
@[reducible] def retI (ts : List Nat) (rs : List AV) : Cont := ⟨retCQ ts rs⟩
@[reducible] def loopC {ι : Type} (T : ι → Slots) (O : ι → List (Nat × AObj)) (μ : ι → Nat) (i : ι) (Q : Cont) : Cont :=
  ⟨Out.then (fun τ => ∃ i', μ i' < μ i ∧ WeakE K τ (T i') (O i')) Q.q⟩

variable {P N K}

theorem Wi_skip {Q : Cont} {σ : St} : @Wi P N K .skip Q σ = @Qi Q .normal σ := rfl
theorem Wi_seq {Q : Cont} {σ : St} {a b : ACode} : @Wi P N K (.seq a b) Q σ = @Wi P N K a (thenC P N K b Q) σ := rfl
theorem Wi_seqr {Q : Cont} {σ : St} {l : List AOper} : @Wi P N K (.region false l) Q σ = @Wsi P l (normC Q) σ := rfl
theorem Wi_anyr {Q : Cont} {σ : St} {l : List AOper} : @Wi P N K (.region true l) Q σ = @Wni P l [] (normC Q) σ := rfl
theorem Wi_cond {Q : Cont} {σ : St} {c : AX} {a b : ACode} : @Wi P N K (.cond c a b) Q σ = (match σ.ev c with
    | some (true, .sc (.bool t)) => if t = true then @Wi P N K a Q σ else @Wi P N K b Q σ
    | _ => False) := rfl
theorem Wi_block {Q : Cont} {σ : St} {i : Nat} {a : ACode} : @Wi P N K (.block i a) Q σ = @Wi P N K a (blockC i Q) σ := rfl
theorem Wi_loop {Q : Cont} {σ : St} {a : ACode} : @Wi P N K (.loop a) Q σ = @Wpi P N K (.loop a) Q σ := rfl
theorem Wi_mark {Q : Cont} {σ : St} {a : ACode} : @Wi P N K (.mark a) Q σ = @Wpi P N K a Q σ := rfl
theorem Wi_exit {Q : Cont} {σ : St} {i : Nat} : @Wi P N K (.exit i) Q σ = @Qi Q (.exit i) σ := rfl
theorem Wi_ret {Q : Cont} {σ : St} : @Wi P N K .ret Q σ = @Qi Q .ret σ := rfl
theorem Qi_then_normal {Q : Cont} {σ : St} {b : ACode} : @Qi (thenC P N K b Q) .normal σ = @Wi P N K b Q σ := rfl
theorem Qi_then_exit {Q : Cont} {σ : St} {b : ACode} {i : Nat} : @Qi (thenC P N K b Q) (.exit i) σ = @Qi Q (.exit i) σ := rfl
theorem Qi_then_ret {Q : Cont} {σ : St} {b : ACode} : @Qi (thenC P N K b Q) .ret σ = @Qi Q .ret σ := rfl
theorem Qi_block_normal {Q : Cont} {σ : St} {id : Nat} : @Qi (blockC id Q) .normal σ = @Qi Q .normal σ := rfl
theorem Qi_block_exit {Q : Cont} {σ : St} {id i : Nat} : @Qi (blockC id Q) (.exit i) σ = if i = id then @Qi Q .normal σ else @Qi Q (.exit i) σ := rfl
theorem Qi_block_ret {Q : Cont} {σ : St} {id : Nat} : @Qi (blockC id Q) .ret σ = @Qi Q .ret σ := rfl
theorem Qi_loop_normal {ι : Type} {T : ι → Slots} {O : ι → List (Nat × AObj)} {μ : ι → Nat} {i : ι} {Q : Cont} {σ : St} : @Qi (loopC K T O μ i Q) .normal σ = ∃ i', μ i' < μ i ∧ WeakE K σ (T i') (O i') := rfl
theorem Qi_loop_exit {ι : Type} {T : ι → Slots} {O : ι → List (Nat × AObj)} {μ : ι → Nat} {i : ι} {Q : Cont} {σ : St} {j : Nat} : @Qi (loopC K T O μ i Q) (.exit j) σ = @Qi Q (.exit j) σ := rfl
theorem Qi_loop_ret {ι : Type} {T : ι → Slots} {O : ι → List (Nat × AObj)} {μ : ι → Nat} {i : ι} {Q : Cont} {σ : St} : @Qi (loopC K T O μ i Q) .ret σ = @Qi Q .ret σ := rfl
theorem Qi_ret {ts : List Nat} {rs : List AV} {σ : St} : @Qi (retI ts rs) .ret σ = retC σ ts rs := rfl
theorem Qi_end {ts : List Nat} {rs : List AV} {σ : St} : @Qi (retI ts rs) .normal σ = retC σ ts rs := rfl
theorem Si_norm {Q : Cont} {σ : St} : @Si (normC Q) σ = @Qi Q .normal σ := rfl
theorem Wsi_nil {Q : ContS} {σ : St} : @Wsi P [] Q σ = @Si Q σ := rfl
theorem Wsi_cons {Q : ContS} {σ : St} {o : AOper} {os : List AOper} : @Wsi P (o :: os) Q σ = @Woi P o σ (seqC P os Q o.dst σ) := rfl
theorem Wni_nil {Q : ContS} {σ : St} {seen : List (List Nat × List Nat)} : @Wni P [] seen Q σ = @Si Q σ := rfl
theorem Wni_cons {Q : ContS} {σ : St} {o : AOper} {os : List AOper} {seen : List (List Nat × List Nat)} : @Wni P (o :: os) seen Q σ = @Woi P o σ (anyC P o os seen Q σ) := rfl
theorem Ri_seq {Q : ContS} {σ : St} {os : List AOper} {d : Option Nat} {b : Bool} {r : Res} : @Ri (seqC P os Q d σ) b r = @Wsi P os Q (σ.put d b r) := rfl
theorem Ri_any {Q : ContS} {σ : St} {o : AOper} {os : List AOper} {seen : List (List Nat × List Nat)} {b : Bool} {r : Res} :
    @Ri (anyC P o os seen Q σ) b r = (keepOff seen (foot σ o) (keys r) o.chk ∧ @Wni P os (seen ++ [(foot σ o, keys r)]) Q (σ.put o.dst b r)) := rfl
theorem Woi_def {Q : ContR} {σ : St} {o : AOper} : @Woi P o σ Q = (match guardV σ o.guard with
    | some b => @WopMi P o σ b Q
    | none => False) := by
  unfold Woi wop; cases guardV σ o.guard with
  | none => rfl
  | some b =>
    simp only
    unfold wopM WopMi
    cases o.op <;> rfl

theorem CallGi_keep {m : Nat → Option AObj} {f : FuncId} {b : Bool} {Q : ContR} {avs cargs : List AV} {r : AV} (hc : CallsA P f cargs [] r []) (hn : r.noDsl = true) (ha : argsC m avs cargs [] fun _ => True)
    (hK : @Ri Q b ⟨some r, []⟩) : @CallGi P m f avs b Q := callG_keep hc hn ha hK
theorem CallGi_thaw {m : Nat → Option AObj} {f : FuncId} {b : Bool} {Q : ContR} {avs cargs : List AV} {r : AV} (hc : CallsA P f cargs [] r []) (ha : argsC m avs cargs [] fun wr => (wr ≠ [] → b = true) ∧ @Ri Q b ⟨some r, wr⟩) :
    @CallGi P m f avs b Q := callG_thaw hc ha
theorem CallGi_flat {m : Nat → Option AObj} {f : FuncId} {b : Bool} {Q : ContR} {avs : List AV} {r : AV} (hc : CallsA P f avs [] r []) (hf : flats avs = true) (hK : @Ri Q b ⟨some r, []⟩) : @CallGi P m f avs b Q := callG_flat hc hf hK

theorem Wpi_loop {x : ACode} {Q : Cont} {σ : St} {ι : Type} (hm : P.follows .mixedOrders = true) (T : ι → Slots) (O : ι → List (Nat × AObj)) (μ : ι → Nat) (i0 : ι) (h0 : WeakE K σ (T i0) (O i0))
    (h : ∀ i, @Wi P N K x (loopC K T O μ i Q) (stOf (T i) (O i))) : @Wpi P N K (.loop x) Q σ := Wp.loop T O μ i0 h0 fun i => Wp.of_W hm x (h i)

theorem Wpi_of {x : ACode} {Q : Cont} {σ : St} (hm : P.follows .mixedOrders = true) (h : @Wi P N K x Q σ) : @Wpi P N K x Q σ := Wp.of_W hm x h
theorem Wpi_weak {x : ACode} {Q : Cont} {σ : St} {T : Slots} {O : List (Nat × AObj)} (h : WeakE K σ T O) (hw : @Wpi P N K x Q (stOf T O)) : @Wpi P N K x Q σ := Wp.weak h hw

/-- a contract without objects, from the code -/
theorem callsI_of {f : FuncId} {fn : Func} {ac : ACode} {args : List AV} {ts : List Nat} {rs : List AV} (hm : P.follows .mixedOrders = true)
    (hf : P.funcs[f]? = some fn) (hb : fn.body = some (fn.body.getD .skip)) (hname : (fn.name != "runtime.NumGoroutine") = true) (hc : compile P fn.ntmps (fn.body.getD .skip) = some ac.strip)
    (hts : tmpsOf fn.results.toList = some ts) (hnd : ts.Nodup) (hl : (args.length.ble fn.ntmps) = true)
    (h : @Wi P fn.ntmps [] ac (retI ts rs) (start args [])) : CallsA P f args [] (pack rs) [] := callsA_of hm hf hb hname hc hts hnd hl h
end
end Go.Abs
namespace Go.Abs
theorem loop_next {K : List Nat} {ι : Type} {T : ι → Slots} {O : ι → List (Nat × AObj)} {μ : ι → Nat} {i : ι} {Q : Cont} {σ : St} (i' : ι) (hμ : μ i' < μ i) (h : WeakE K σ (T i') (O i')) :
    @Qi (loopC K T O μ i Q) .normal σ := ⟨i', hμ, h⟩
end Go.Abs
