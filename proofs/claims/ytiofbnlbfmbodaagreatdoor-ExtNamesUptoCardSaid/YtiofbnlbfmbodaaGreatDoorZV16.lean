import Derived.Test.YtiofbnlbfmbodaaGreatDoorZV15
import Derived.Test.YtiofbnlbfmbodaaGreatDoorZV14
set_option linter.unusedVariables false
set_option linter.unusedSimpArgs false
namespace Go.Pl
open Go.Vc
set_option linter.unusedVariables false
set_option linter.unusedSimpArgs false
def firstT (p : Int × List Int → Bool) : List (Int × List Int) → Nat → Int
  | [], _ => -1
  | t :: l, i => if p t then (i : Int) else firstT p l (i + 1)
end Go.Pl
