/- Texts of a verified walk, led together: Within, MapL. -/
import Derived.Test.YtiofbnlbfmbodaaGreatDoorZV13
import Derived.Test.YtiofbnlbfmbodaaGreatDoorZV07
import Derived.Lib.MapLaws
import Derived.Lib.TrimAscii
set_option linter.unusedVariables false
set_option linter.unusedSimpArgs false
section
namespace Go.Pl
open Go.Vc
set_option linter.unusedVariables false
set_option linter.unusedSimpArgs false
end Go.Pl
end
section
namespace Go.Pl
open Go.Vc
set_option linter.unusedVariables false
set_option linter.unusedSimpArgs false
end Go.Pl
end
