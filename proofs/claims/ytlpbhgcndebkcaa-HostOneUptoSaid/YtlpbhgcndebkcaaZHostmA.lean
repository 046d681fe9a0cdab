/- Contracts. -/
import Derived.Test.YtlpbhgcndebkcaaZLaw13W
set_option linter.unusedVariables false
set_option linter.unusedSimpArgs false
namespace Go.Proofs.Ytlpbhgcndebkcaa
open Go Go.Vc Go.Pl Go.Proofs
def c_host_small : Con := { args := [.dat .str], res := [.dat .str], pre := fun x => x.1.length ≤ 1000000000, post := fun x y => y.1 = lowD x.1 }
def c_r13_Small : Con := { args := [.dat .str], res := [.dat .str], pre := fun x => x.1.length ≤ 1000000000, post := fun x y => y.1 = lowD x.1 }
def c_host_Match : Con := { args := [.dat .str, .dat .str], res := [.dat .bool], pre := fun x => x.1.length ≤ 1000000000 ∧ x.2.1.length ≤ 1000000000, post := fun x y => y.1 = matchD x.1 x.2.1 }
def c_r13_Match : Con := { args := [.dat .str, .dat .str], res := [.dat .bool], pre := fun x => x.1.length ≤ 1000000000 ∧ x.2.1.length ≤ 1000000000, post := fun x y => y.1 = matchD x.1 x.2.1 }
end Go.Proofs.Ytlpbhgcndebkcaa
