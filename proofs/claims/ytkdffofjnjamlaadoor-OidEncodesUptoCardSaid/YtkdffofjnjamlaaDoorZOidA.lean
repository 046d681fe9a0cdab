/- Contracts. -/
import Derived.Test.YtkdffofjnjamlaaDoorZGlok03eW
import Derived.Test.YtkdffofjnjamlaaDoorZVcOid
set_option linter.unusedVariables false
set_option linter.unusedSimpArgs false
namespace Go.Proofs.YtkdffofjnjamlaaDoor
open Go Go.Vc Go.Pl Go.Proofs
def c_oid_May : Con := { args := [.dat (.sl I64)], res := [.dat .bool], pre := fun _ => True, post := fun x y => y.1 = mayO x.1 }
def c_r03_May : Con := { args := [.dat (.sl I64)], res := [.dat .bool], pre := fun _ => True, post := fun x y => y.1 = mayO x.1 }
def c_oid_number : Con := { args := [.own 5 U8, .dat I64], res := [.own 5 U8], pre := fun x => lenI x.1 ≤ 1000 ∧ 0 ≤ x.2.1 ∧ x.2.1 ≤ 2147483647, post := fun x y => y.1 = x.1 ++ numO x.2.1 }
def c_r03_Number : Con := { args := [.dat I64], res := [.own 5 U8], pre := fun x => 0 ≤ x.1 ∧ x.1 ≤ 2147483647, post := fun x y => y.1 = numO x.1 }
def c_oid_Encode : Con := { args := [.dat (.sl I64)], res := [.own 5 U8, .dat I64], pre := fun _ => True, post := fun x y => (y.1, y.2.1) = EncO x.1 }
def c_r03_Encode : Con := { args := [.dat (.sl I64)], res := [.own 5 U8, .dat I64], pre := fun _ => True, post := fun x y => (y.1, y.2.1) = EncO x.1 }

end Go.Proofs.YtkdffofjnjamlaaDoor
