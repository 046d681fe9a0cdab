/- Contracts. -/
import Derived.Test.YtcaekpbmmbfeiaaDoorZNameW
set_option linter.unusedVariables false
set_option linter.unusedSimpArgs false
namespace Go.Proofs.YtcaekpbmmbfeiaaDoor
open Go Go.Vc Go.Pl Go.Proofs
def c_law12_there : Con := { args := [], res := [.dat .bool], pre := fun _ => True, post := fun _ y => y.1 = true }
def c_law12_NameOrder : Con := { args := [.dat (.sl AT), .dat (.sl AT), .dat (.sl AT), .dat I64], res := [.dat .bool], pre := fun x => ABulk [.dat (.sl AT), .dat (.sl AT), .dat (.sl AT), .dat I64] x ≤ 1048576, post := fun _ y => y.1 = true }

end Go.Proofs.YtcaekpbmmbfeiaaDoor
