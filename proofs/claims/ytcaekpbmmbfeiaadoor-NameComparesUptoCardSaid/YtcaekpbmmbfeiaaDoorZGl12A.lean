/- Contracts. -/
import Derived.Test.YtcaekpbmmbfeiaaDoorZVcLib
import Derived.Test.YtcaekpbmmbfeiaaDoorZTy
import Derived.Test.YtcaekpbmmbfeiaaDoorZVcText
import Derived.Test.YtcaekpbmmbfeiaaDoorZShelf
set_option linter.unusedVariables false
set_option linter.unusedSimpArgs false
namespace Go.Proofs.YtcaekpbmmbfeiaaDoor
open Go Go.Vc Go.Pl Go.Proofs
def GL : Gl := [(1, .arr U8 Lib.firstTab), (2, .arr (.pair U8 U8) accTab), (0, .num .i64)]

end Go.Proofs.YtcaekpbmmbfeiaaDoor
