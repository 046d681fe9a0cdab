/- Walks. -/
import Derived.Test.YtcaekpbmmbfeiaaDoorZGlok12A
set_option linter.unusedVariables false
set_option linter.unusedSimpArgs false
namespace Go.Proofs.YtcaekpbmmbfeiaaDoor
open Go Go.Vc Go.Pl Go.Proofs
end Go.Proofs.YtcaekpbmmbfeiaaDoor
