/- Contracts. -/
import Derived.Test.YtlpbhgcndebkcaaZLaw13mW
set_option linter.unusedVariables false
set_option linter.unusedSimpArgs false
namespace Go.Proofs.Ytlpbhgcndebkcaa
open Go Go.Vc Go.Pl Go.Proofs
def c_law13_HostOne : Con := { args := [.dat .str, .dat .str], res := [.dat .bool], pre := fun x => ABulk [.dat .str, .dat .str] x ≤ 1048576, post := fun _ y => y.1 = true }

end Go.Proofs.Ytlpbhgcndebkcaa
