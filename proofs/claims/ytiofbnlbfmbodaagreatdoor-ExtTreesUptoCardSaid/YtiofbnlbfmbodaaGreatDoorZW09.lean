/- Texts of a verified walk, led together: WithinA, WithinW. -/
import Derived.Test.YtiofbnlbfmbodaaGreatDoorZW08
import Derived.Test.YtiofbnlbfmbodaaGreatDoorZV15
set_option linter.unusedVariables false
set_option linter.unusedSimpArgs false
section
namespace Go.Proofs.YtiofbnlbfmbodaaGreatDoor
open Go Go.Vc Go.Pl Go.Proofs
end Go.Proofs.YtiofbnlbfmbodaaGreatDoor
end
section
namespace Go.Proofs.YtiofbnlbfmbodaaGreatDoor
open Go Go.Vc Go.Pl Go.Proofs
set_option linter.unusedVariables false
set_option linter.unusedSimpArgs false
end Go.Proofs.YtiofbnlbfmbodaaGreatDoor
end
