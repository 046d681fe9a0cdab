/- Contracts. -/
import Derived.Test.YtlpbhgcndebkcaaZHostW
set_option linter.unusedVariables false
set_option linter.unusedSimpArgs false
namespace Go.Proofs.Ytlpbhgcndebkcaa
open Go Go.Vc Go.Pl Go.Proofs
def c_law13_names : Con := { args := [], res := [.dat .bool], pre := fun _ => True, post := fun _ y => y.1 = true }
def c_law13_works : Con := { args := [], res := [.dat .bool], pre := fun _ => True, post := fun _ y => y.1 = true }
def c_law13_HostMays : Con := { args := [.dat .str], res := [.dat .bool], pre := fun x => ABulk [.dat .str] x ≤ 1048576, post := fun _ y => y.1 = true }
def c_law13_HostLabels : Con := { args := [.dat .str, .dat I64], res := [.dat .bool], pre := fun x => ABulk [.dat .str, .dat I64] x ≤ 1048576, post := fun _ y => y.1 = true }

end Go.Proofs.Ytlpbhgcndebkcaa
