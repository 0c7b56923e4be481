/- A part of the walk: contracts of functions that the statement reaches. -/
import Derived.Test.YtlldeiikcfaegaaGreatAbsC
import Derived.Test.YtlldeiikcfaegaaGreatS6
set_option linter.unusedSimpArgs false
set_option linter.unusedVariables false
set_option linter.unnecessarySimpa false
set_option maxRecDepth 100000
set_option maxHeartbeats 2000000
set_option linter.unusedSimpArgs false
set_option linter.unusedVariables false
namespace Go.Abs
open Go.Proofs
open Api
theorem sq_set_g (s : Sq) (k : Nat) (c : List AV) : (s.set k c).g k = c := by simp [Sq.set]
theorem sq_set_set (s : Sq) (k : Nat) (c c' : List AV) : (s.set k c).set k c' = s.set k c' := by
  simp only [Sq.set, Sq.mk.injEq, true_and]; funext i; split <;> rfl
attribute [go_sem] sq_set_g sq_set_set
/-- an event: its kind and the body it is about -/
def encEv (e : Int × Int) : List AV := [.sc (.int .i64 e.1), .sc (.int .i64 e.2), .sc (.int .i64 0), .sc (.int .i64 0), .sc (.int .i64 0)]
attribute [go_sem] encEv
def withB (w : Api.World) (bs : List Body) : Api.World := { w with Bodies := bs }
def evObj (k : Nat) (e : List (Int × Int)) : List (Nat × AObj) := [(k, .arr 5 (encQ encEv default e))]
attribute [go_sem] evObj withB
def gobjB (w : Api.World) (bs : List Body) (x : Island) (l : List Int) : List (Nat × AObj) := [(6, .box (gcells w x l.length)), (5, .arr 1 (encQ encInt 0 l)), (1, .arr 20 (encQ Body.enc default bs)), (2, .arr 24 (encQ Joint.enc default w.Joints)), (3, .arr 7 (encQ Contact.enc default w.Contacts)), (4, .arr 4 (encQ PairKey.enc default w.Overlaps))]
attribute [go_sem] gobjB
end Go.Abs
