import Derived.Test.YtiofbnlbfmbodaaGreatDoorZV17
import Derived.Test.YtiofbnlbfmbodaaGreatDoorZV12
set_option linter.unusedVariables false
set_option linter.unusedSimpArgs false
namespace Go.Pl
open Go.Vc
set_option linter.unusedVariables false
set_option linter.unusedSimpArgs false
def caB (c : Bool) : List Int := if c = true then putB (1, [255]) else []
def SubjectD (k : List Int) : List Int := putB (4, k)
theorem ca_len (c : Bool) : (caB c).length ≤ 3 := by cases c <;> simp [caB, putB, lngD]
end Go.Pl
