/- Walks. -/
import Derived.Test.YtlpbhgcndebkcaaZGl13A
set_option linter.unusedVariables false
set_option linter.unusedSimpArgs false
namespace Go.Proofs.Ytlpbhgcndebkcaa
open Go Go.Vc Go.Pl Go.Proofs
end Go.Proofs.Ytlpbhgcndebkcaa
