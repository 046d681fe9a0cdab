/- Texts of a verified walk, led together: NumA, NumW. -/
import Derived.Test.YtiofbnlbfmbodaaGreatDoorZW10
import Derived.Test.YtiofbnlbfmbodaaGreatDoorZV17
import Derived.Test.YtiofbnlbfmbodaaGreatDoorZV10
set_option linter.unusedVariables false
set_option linter.unusedSimpArgs false
section
namespace Go.Proofs.YtiofbnlbfmbodaaGreatDoor
open Go Go.Vc Go.Pl Go.Proofs
end Go.Proofs.YtiofbnlbfmbodaaGreatDoor
end
section
namespace Go.Proofs.YtiofbnlbfmbodaaGreatDoor
open Go Go.Vc Go.Pl Go.Proofs
end Go.Proofs.YtiofbnlbfmbodaaGreatDoor
end
