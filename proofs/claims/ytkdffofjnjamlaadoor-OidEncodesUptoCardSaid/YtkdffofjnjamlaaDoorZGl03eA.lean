/- Contracts. -/
import Derived.Test.YtkdffofjnjamlaaDoorZVcLib
import Derived.Test.YtkdffofjnjamlaaDoorZTy
import Derived.Test.YtkdffofjnjamlaaDoorZVcOid
import Derived.Test.YtkdffofjnjamlaaDoorZShelf
set_option linter.unusedVariables false
set_option linter.unusedSimpArgs false
namespace Go.Proofs.YtkdffofjnjamlaaDoor
open Go Go.Vc Go.Pl Go.Proofs
def GL : Gl := [(2, .raw (Lib.pow10Tab.map fun z => Value.int .u64 z))]

end Go.Proofs.YtkdffofjnjamlaaDoor
