/- A part of the walk: contracts of functions that the statement reaches. -/
import Derived.Test.YtlldeiikcfaegaaGreatAbsC
import Derived.Test.YtlldeiikcfaegaaGreatI1
set_option linter.unusedSimpArgs false
set_option linter.unusedVariables false
set_option linter.unnecessarySimpa false
set_option maxRecDepth 100000
set_option maxHeartbeats 2000000
set_option linter.unusedSimpArgs false
set_option linter.unusedVariables false
namespace Go.Abs
open Go.Proofs
open Api
def kd (w : Api.World) (i : Nat) : Bool := (w.Bodies.getD i default).Kind == 3
def aput (nm : List (Int × Int)) (k v : Int) : List (Int × Int) := match nm with
  | [] => [(k, v)]
  | (a, u) :: r => if (k == a) = true then (a, v) :: r else (a, u) :: aput r k v
def nmE (nm : List (Int × Int)) : List (Int × AV) := nm.map fun p => (p.1, .sc (.int .i64 p.2))
/-- the number of the island of a pair of bodies -/
def isl2 (w : Api.World) (g : List Int) (a b : Int) : Option Int := if dynB w a = true then some (root g (findB w a)) else if dynB w b = true then some (root g (findB w b)) else none
end Go.Abs
