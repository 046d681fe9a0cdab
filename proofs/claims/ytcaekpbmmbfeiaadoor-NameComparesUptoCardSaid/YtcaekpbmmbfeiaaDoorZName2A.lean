/- Contracts. -/
import Derived.Test.YtcaekpbmmbfeiaaDoorZNameW
set_option linter.unusedVariables false
set_option linter.unusedSimpArgs false
namespace Go.Proofs.YtcaekpbmmbfeiaaDoor
open Go Go.Vc Go.Pl Go.Proofs
def c_r12_Alike : Con := { args := [.dat (.sl AT), .dat (.sl AT)], res := [.dat .bool], pre := fun x => x.1.length ≤ 1000000000 ∧ x.2.1.length ≤ 1000000000, post := fun x y => y.1 = decide (x.1 = x.2.1) }
def c_r12_Begins : Con := { args := [.dat (.sl AT), .dat (.sl AT)], res := [.dat .bool], pre := fun x => x.2.1.length ≤ 1000000000 ∧ (∀ a ∈ x.1, a.2.length ≤ 100000000) ∧ ∀ a ∈ x.2.1, a.2.length ≤ 100000000, post := fun x y => y.1 = beginsD x.1 x.2.1 }
def c_r12_Same : Con := { args := [.dat (.sl AT), .dat (.sl AT)], res := [.dat .bool], pre := fun x => x.1.length ≤ 1000000000 ∧ x.2.1.length ≤ 1000000000 ∧ (∀ a ∈ x.1, a.2.length ≤ 100000000) ∧ ∀ a ∈ x.2.1, a.2.length ≤ 100000000, post := fun x y => y.1 = sameN x.1 x.2.1 }

end Go.Proofs.YtcaekpbmmbfeiaaDoor
