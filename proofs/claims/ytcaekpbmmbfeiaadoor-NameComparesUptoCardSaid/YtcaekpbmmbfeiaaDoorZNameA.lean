/- Contracts. -/
import Derived.Test.YtcaekpbmmbfeiaaDoorZTextW
import Derived.Test.YtcaekpbmmbfeiaaDoorZVcName
set_option linter.unusedVariables false
set_option linter.unusedSimpArgs false
namespace Go.Proofs.YtcaekpbmmbfeiaaDoor
open Go Go.Vc Go.Pl Go.Proofs
def c_name_Begins : Con := { args := [.dat (.sl AT), .dat (.sl AT)], res := [.dat .bool], pre := fun x => x.2.1.length ≤ 1000000000 ∧ (∀ a ∈ x.1, a.2.length ≤ 100000000) ∧ ∀ a ∈ x.2.1, a.2.length ≤ 100000000, post := fun x y => y.1 = beginsD x.1 x.2.1 }
def c_name_Same : Con := { args := [.dat (.sl AT), .dat (.sl AT)], res := [.dat .bool], pre := fun x => x.1.length ≤ 1000000000 ∧ x.2.1.length ≤ 1000000000 ∧ (∀ a ∈ x.1, a.2.length ≤ 100000000) ∧ ∀ a ∈ x.2.1, a.2.length ≤ 100000000, post := fun x y => y.1 = sameN x.1 x.2.1 }
def c_name_label : Con := { args := [.dat I64], res := [.dat .str], pre := fun _ => True, post := fun x y => y.1 = labelK x.1 }
def c_name_capitals : Con := { args := [.dat .str], res := [.dat .bool], pre := fun _ => True, post := fun x y => y.1 = capsD x.1 }
def c_name_may : Con := { args := [.dat AT], res := [.dat .bool], pre := fun _ => True, post := fun x y => y.1 = mayA x.1 }
def c_name_May : Con := { args := [.dat (.sl AT)], res := [.dat .bool], pre := fun _ => True, post := fun x y => y.1 = mayN x.1 }

end Go.Proofs.YtcaekpbmmbfeiaaDoor
