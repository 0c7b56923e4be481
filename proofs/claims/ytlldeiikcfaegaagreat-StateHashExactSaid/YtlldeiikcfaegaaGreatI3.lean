/- A part of the walk: contracts of functions that the statement reaches. -/
import Derived.Test.YtlldeiikcfaegaaGreatAbsC
import Derived.Test.YtlldeiikcfaegaaGreatI2
set_option linter.unusedSimpArgs false
set_option linter.unusedVariables false
set_option linter.unnecessarySimpa false
set_option maxRecDepth 100000
set_option maxHeartbeats 2000000
set_option linter.unusedSimpArgs false
set_option linter.unusedVariables false
namespace Go.Abs
open Go.Proofs
open Api
def memb (p : Nat → Option Nat) (q : Nat) : Nat → List Int
  | 0 => []
  | k + 1 => if p k = some q then memb p q k ++ [(k : Int)] else memb p q k
/-- the islands, each with three rows of its own -/
def islQ (m : Nat) (B C J : Nat → List Int) : Sq := ⟨m, fun q => [.own 1 (B q).length (encAt encInt 0 (B q)), .own 1 (C q).length (encAt encInt 0 (C q)), .own 1 (J q).length (encAt encInt 0 (J q))]⟩
theorem islQ_n (m : Nat) (B C J : Nat → List Int) : (islQ m B C J).n = m := rfl
theorem islQ_g (m : Nat) (B C J : Nat → List Int) (q : Nat) : (islQ m B C J).g q = [.own 1 (B q).length (encAt encInt 0 (B q)), .own 1 (C q).length (encAt encInt 0 (C q)), .own 1 (J q).length (encAt encInt 0 (J q))] := rfl
attribute [go_sem] islQ_n islQ_g
def isR (w : Api.World) (g : List Int) (j : Nat) : Bool := kd w j && (g.getD j 0 == (j : Int))
def nb (w : Api.World) (g : List Int) : Nat → Nat
  | 0 => 0
  | i + 1 => if isR w g i = true then nb w g i + 1 else nb w g i
def nmB (w : Api.World) (g : List Int) : Nat → List (Int × Int)
  | 0 => []
  | i + 1 => if isR w g i = true then aput (nmB w g i) (i : Int) (nb w g i : Int) else nmB w g i
def pB (w : Api.World) (g : List Int) (j : Nat) : Option Nat := if kd w j = true then some (nb w g (root g (j : Int)).toNat) else none
def pC (w : Api.World) (g : List Int) (k : Nat) : Option Nat := (isl2 w g (w.Contacts.getD k default).Key.BodyA (w.Contacts.getD k default).Key.BodyB).map fun r => nb w g r.toNat
def pJ (w : Api.World) (g : List Int) (k : Nat) : Option Nat := (isl2 w g (w.Joints.getD k default).BodyA (w.Joints.getD k default).BodyB).map fun r => nb w g r.toNat
def outB (w : Api.World) (i : Nat) : Sq := islQ (nb w (conn w) i) (fun q => memb (pB w (conn w)) q i) (fun _ => []) (fun _ => [])
attribute [go_sem] outB
def exSB (w : Api.World) (i : Nat) : List (Nat × AObj) := [(32, .box w.enc), (384, .map .i64 (nmE (nmB w (conn w) i))), (1, .arrP 3 (outB w i))]
attribute [go_sem] exSB
def exSC (w : Api.World) (k : Nat) : List (Nat × AObj) := [(32, .box w.enc), (384, .map .i64 (nmE (nmB w (conn w) w.Bodies.length))), (1, .arrP 3 (islQ (nb w (conn w) w.Bodies.length) (fun q => memb (pB w (conn w)) q w.Bodies.length) (fun q => memb (pC w (conn w)) q k) (fun _ => [])))]
attribute [go_sem] exSC
def exSJ (w : Api.World) (k : Nat) : List (Nat × AObj) := [(32, .box w.enc), (384, .map .i64 (nmE (nmB w (conn w) w.Bodies.length))), (1, .arrP 3 (islQ (nb w (conn w) w.Bodies.length) (fun q => memb (pB w (conn w)) q w.Bodies.length) (fun q => memb (pC w (conn w)) q w.Contacts.length) (fun q => memb (pJ w (conn w)) q k)))]
attribute [go_sem] exSJ
end Go.Abs
