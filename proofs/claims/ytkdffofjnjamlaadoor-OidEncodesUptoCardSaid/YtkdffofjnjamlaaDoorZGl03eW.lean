/- Walks. -/
import Derived.Test.YtkdffofjnjamlaaDoorZGl03eA
set_option linter.unusedVariables false
set_option linter.unusedSimpArgs false
namespace Go.Proofs.YtkdffofjnjamlaaDoor
open Go Go.Vc Go.Pl Go.Proofs
end Go.Proofs.YtkdffofjnjamlaaDoor
