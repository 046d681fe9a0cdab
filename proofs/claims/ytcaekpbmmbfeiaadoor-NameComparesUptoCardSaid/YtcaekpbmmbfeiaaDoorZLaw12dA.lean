/- Contracts. -/
import Derived.Test.YtcaekpbmmbfeiaaDoorZName2W
set_option linter.unusedVariables false
set_option linter.unusedSimpArgs false
namespace Go.Proofs.YtcaekpbmmbfeiaaDoor
open Go Go.Vc Go.Pl Go.Proofs
def c_law12_names : Con := { args := [], res := [.dat .bool], pre := fun _ => True, post := fun _ y => y.1 = true }
def c_law12_works : Con := { args := [], res := [.dat .bool], pre := fun _ => True, post := fun _ y => y.1 = true }
def c_law12_NameCompares : Con := { args := [.dat (.sl AT), .dat (.sl AT)], res := [.dat .bool], pre := fun x => ABulk [.dat (.sl AT), .dat (.sl AT)] x ≤ 1048576, post := fun _ y => y.1 = true }


end Go.Proofs.YtcaekpbmmbfeiaaDoor
