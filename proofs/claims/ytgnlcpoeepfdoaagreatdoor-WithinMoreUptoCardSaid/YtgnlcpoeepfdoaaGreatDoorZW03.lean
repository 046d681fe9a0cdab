/- Texts of a verified walk, led together: NampA, NampW. -/
import Derived.Test.YtgnlcpoeepfdoaaGreatDoorZW02
import Derived.Test.YtgnlcpoeepfdoaaGreatDoorZV08
set_option linter.unusedVariables false
set_option linter.unusedSimpArgs false
section
namespace Go.Proofs.YtgnlcpoeepfdoaaGreatDoor
open Go Go.Vc Go.Pl Go.Proofs
end Go.Proofs.YtgnlcpoeepfdoaaGreatDoor
end
section
namespace Go.Proofs.YtgnlcpoeepfdoaaGreatDoor
open Go Go.Vc Go.Pl Go.Proofs
set_option linter.unusedVariables false
set_option linter.unusedSimpArgs false
end Go.Proofs.YtgnlcpoeepfdoaaGreatDoor
end
