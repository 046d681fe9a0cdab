/- Contracts. -/
import Derived.Test.YtkdffofjnjamlaaDoorZOidtW
set_option linter.unusedVariables false
set_option linter.unusedSimpArgs false
namespace Go.Proofs.YtkdffofjnjamlaaDoor
open Go Go.Vc Go.Pl Go.Proofs
def c_r03_Compare : Con := { args := [.dat (.sl I64), .dat (.sl I64)], res := [.dat I64], pre := fun _ => True, post := fun x y => x.1 = x.2.1 → y.1 = 0 }
def c_law03_same : Con := { args := [.dat (.sl I64), .dat (.sl I64)], res := [.dat .bool], pre := fun _ => True, post := fun x y => x.1 = x.2.1 → y.1 = true }
def c_law03_names : Con := { args := [], res := [.dat .bool], pre := fun _ => True, post := fun _ y => y.1 = true }
def c_law03_OidEncodes : Con := { args := [.dat (.sl I64)], res := [.dat .bool], pre := fun x => ABulk [.dat (.sl I64)] x ≤ 1048576, post := fun _ y => y.1 = true }

end Go.Proofs.YtkdffofjnjamlaaDoor
