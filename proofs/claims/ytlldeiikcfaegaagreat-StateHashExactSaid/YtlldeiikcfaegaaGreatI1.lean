/- A part of the walk: contracts of functions that the statement reaches. -/
import Derived.Test.YtlldeiikcfaegaaGreatAbsC
import Derived.Test.YtlldeiikcfaegaaGreatT7
import Derived.Test.YtlldeiikcfaegaaGreatS5
set_option linter.unusedSimpArgs false
set_option linter.unusedVariables false
set_option linter.unnecessarySimpa false
set_option maxRecDepth 100000
set_option maxHeartbeats 2000000
set_option linter.unusedSimpArgs false
set_option linter.unusedVariables false
namespace Go.Abs
open Go.Proofs
open Api
def dynB (w : Api.World) (id : Int) : Bool := decide (0 ≤ findB w id) && ((w.Bodies.getD (findB w id).toNat default).Kind == 3)
/-- the root of i, in at most so many steps -/
def rt (g : List Int) : Nat → Int → Int
  | 0, i => i
  | k + 1, i => if g.getD i.toNat 0 = i then i else rt g k (g.getD i.toNat 0)
def root (g : List Int) (i : Int) : Int := rt g i.toNat i
def imax (a b : Int) : Int := if a < b then b else a
def imin (a b : Int) : Int := if b < a then b else a
def uni (w : Api.World) (g : List Int) (a b : Int) : List Int :=
  if (dynB w a && dynB w b) = true then g.set (imax (root g (findB w a)) (root g (findB w b))).toNat (imin (root g (findB w a)) (root g (findB w b))) else g
def idL (n : Nat) : List Int := (List.range n).map fun (i : Nat) => (i : Int)
def uC (w : Api.World) (g : List Int) (c : Contact) : List Int := uni w g c.Key.BodyA c.Key.BodyB
def uJ (w : Api.World) (g : List Int) (j : Joint) : List Int := uni w g j.BodyA j.BodyB
def conC (w : Api.World) (k : Nat) : List Int := (w.Contacts.take k).foldl (uC w) (idL w.Bodies.length)
def conJ (w : Api.World) (k : Nat) : List Int := (w.Joints.take k).foldl (uJ w) (conC w w.Contacts.length)
def conn (w : Api.World) : List Int := conJ w w.Joints.length
end Go.Abs
