/- Contracts. -/
import Derived.Test.YtkdffofjnjamlaaDoorZOidW
import Derived.Test.YtkdffofjnjamlaaDoorZVcOid
import Derived.Test.YtkdffofjnjamlaaDoorZShelf
set_option linter.unusedVariables false
set_option linter.unusedSimpArgs false
namespace Go.Proofs.YtkdffofjnjamlaaDoor
open Go Go.Vc Go.Pl Go.Proofs
def c_strconv_Itoa : Con := { args := [I64].map .dat, res := [Kd.str].map .dat, pre := fun _ => True, post := fun x y => y.1 = itoaD x.1 }
def c_strings_Join : Con := { args := [Kd.sl .str, Kd.str].map .dat, res := [Kd.str].map .dat, pre := fun x => (x.1 : List (List Int)).length ≤ 1000000 ∧ (joinO x.1 x.2.1).length ≤ 1000000000, post := fun x y => y.1 = joinO x.1 x.2.1 }
def c_r03_Digits : Con := { args := [.dat I64], res := [.dat .str], pre := fun x => 0 ≤ x.1 ∧ x.1 ≤ 2147483647, post := fun x y => y.1 = digD x.1 }
def c_oid_Text : Con := { args := [.dat (.sl I64)], res := [.dat .str, .dat I64], pre := fun _ => True, post := fun x y => (y.1, y.2.1) = TxtO x.1 }
def c_r03_Text : Con := { args := [.dat (.sl I64)], res := [.dat .str, .dat I64], pre := fun _ => True, post := fun x y => (y.1, y.2.1) = TxtO x.1 }

end Go.Proofs.YtkdffofjnjamlaaDoor
