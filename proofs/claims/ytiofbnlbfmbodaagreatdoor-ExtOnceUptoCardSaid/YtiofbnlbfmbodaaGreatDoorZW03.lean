/- Texts of a verified walk, led together: NampA, NampW. -/
import Derived.Test.YtiofbnlbfmbodaaGreatDoorZW02
import Derived.Test.YtiofbnlbfmbodaaGreatDoorZV09
set_option linter.unusedVariables false
set_option linter.unusedSimpArgs false
section
namespace Go.Proofs.YtiofbnlbfmbodaaGreatDoor
open Go Go.Vc Go.Pl Go.Proofs
end Go.Proofs.YtiofbnlbfmbodaaGreatDoor
end
section
namespace Go.Proofs.YtiofbnlbfmbodaaGreatDoor
open Go Go.Vc Go.Pl Go.Proofs
set_option linter.unusedVariables false
set_option linter.unusedSimpArgs false
end Go.Proofs.YtiofbnlbfmbodaaGreatDoor
end
